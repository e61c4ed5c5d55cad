/- The walk through the law TopSet. No condition. -/
import Derived.Test.YthdjckbjjfiopacTopIx
import Derived.Test.YthdjckbjjfiopacTopNum
namespace Go.Proofs.Ythdjckbjjfiopac
open Go.Sl Go.Proofs
set_option linter.unusedVariables false
set_option linter.unusedSimpArgs false
/-- sixteen texts, the first so many noted -/
def wasC (g : Nat → Bytes) (i : Nat) : Array Value := ((List.range 16).map fun j => Str (if j < i then g j else [])).toArray
theorem wasC_size (g : Nat → Bytes) (i : Nat) : (wasC g i).size = 16 := by simp [wasC]
theorem wasC_set {g : Nat → Bytes} {i o : Nat} (hi : i < 16) (ho : o = i) : (wasC g i).setIfInBounds o (Str (g i)) = wasC g (i + 1) := by
  subst ho
  unfold wasC
  rw [List.setIfInBounds_toArray]
  congr 1
  apply List.ext_getElem?
  intro t
  rw [List.getElem?_set]
  by_cases ht : t < 16
  · by_cases h : o = t
    · subst h; simp [hi]
    · rw [if_neg h]
      simp only [List.getElem?_map, List.getElem?_range ht, Option.map_some]
      have : t < o ↔ t < o + 1 := by omega
      simp only [this]
  · rw [List.getElem?_eq_none (by simp; omega)]
    split
    · omega
    · rw [List.getElem?_eq_none (by simp; omega)]
theorem wasC_at {g : Nat → Bytes} {i o : Nat} {T : TypeId} {f : Nat × Nat} (hi : i < 16) (ho : o = i) : objCell (.cells (wasC g 16) T f) o = some (Str (g i)) := by
  subst ho
  show (wasC g 16)[o]? = _
  simp [wasC, hi]
theorem zeroW (w : World) : (zeroValue 36).run Try.prog w = .ok (.agg (wasC (fun _ => []) 0)) w := by
  have e : wasC (fun _ => []) 0 = Array.replicate 16 (Str []) := by kernel_rfl
  rw [e]; exact Try.zeroValue36 w
theorem wasC_0 (g h : Nat → Bytes) : wasC g 0 = wasC h 0 := by simp [wasC]

theorem ct_T_TopSet (l : List ActM) (f : Nat → ActZ) (s : Option Addr) (cap : Nat) (which ati : Int) (data : Bytes) (hl : l.length ≤ 9223372036854775807) (hla : ∀ x ∈ l, x.puts.length ≤ 9223372036854775807 ∧ x.changes.length ≤ 9223372036854775807) (F : List HProp) : Ct Try.prog 5 [sl s l.length cap, I which, I ati, Str data] ([acts s l f] ++ F) (R1 (Bo true) (acts s l f :: F)) := by
  show Ct Try.prog 5 [sl s l.length cap, I which, I ati, Str data] (acts s l f :: F) _
  refine Ct.of Try.func5 rfl 132 Try.ntmps5 (by simp) fun w0 => ?_
  refine g_seq ?_
  refine g_reg ?_
  refine g_v (v_assign rfl) rfl ?_
  refine g_nil ?_
  refine g_seq ?_
  refine g_reg ?_
  refine g_l (l_call (Pre := []) Try.call23 rfl (ct_T_indexed)) rfl ?_
  rintro _ _ ⟨rfl, rfl⟩
  refine g_v (v_assign rfl) rfl ?_
  refine g_nil ?_
  refine g_seq ?_
  refine g_seq ?_
  refine g_reg ?_
  refine g_v (v_move rfl) rfl ?_
  refine g_v (v_not rfl) rfl ?_
  refine g_nil ?_
  refine g_false rfl ?_
  refine g_skip ?_
  refine g_seq ?_
  refine g_seq ?_
  refine g_reg ?_
  refine g_v (v_move rfl) rfl ?_
  refine g_l (l_call (Pre := [acts s l f]) Try.call18 rfl (ct_L_LightActs l f s cap 12 hl hla)) rfl ?_
  rintro _ _ ⟨rfl, rfl⟩
  refine g_v (v_not rfl) rfl ?_
  refine g_v (v_move rfl) rfl ?_
  refine g_gv rfl rfl (fun hg => v_move rfl) rfl rfl ?_
  refine g_gv rfl rfl (fun hg => v_lss rfl rfl) rfl rfl ?_
  refine g_v (v_or rfl rfl) rfl ?_
  refine g_v (v_move rfl) rfl ?_
  refine g_gv rfl rfl (fun hg => v_move rfl) rfl rfl ?_
  refine g_gv rfl rfl (fun hg => v_geq rfl rfl) rfl rfl ?_
  refine g_v (v_or rfl rfl) rfl ?_
  refine g_v (v_move rfl) rfl ?_
  refine g_gv rfl rfl (fun hg => v_move rfl) rfl rfl ?_
  refine g_gv rfl rfl (fun hg => v_slen Try.underlying9 rfl) rfl rfl ?_
  refine g_gv rfl rfl (fun hg => v_gtr rfl rfl) rfl rfl ?_
  refine g_v (v_or rfl rfl) rfl ?_
  refine g_nil ?_
  refine g_cond rfl (fun h39 => ?_) (fun h39 => ?_)
  · skip
    refine g_seq ?_
    refine g_reg ?_
    refine g_v (v_assign rfl) rfl ?_
    refine g_nil ?_
    refine g_ret1 rfl rfl ?_
    exact rfl
  · simp at h39
    obtain ⟨⟨⟨h39, ha1⟩, ha2⟩, ha3⟩ := h39
    have h39 : lightA l 12 = true ∧ True := ⟨h39, trivial⟩
    have hll := lightL h39.1
    obtain ⟨a, rfl⟩ : ∃ a : Nat, ati = a := ⟨ati.toNat, by omega⟩
    refine g_skip ?_
    refine g_seq ?_
    refine g_reg ?_
    refine g_v (v_move rfl) rfl ?_
    refine g_l (l_call (Pre := [acts s l f]) Try.call24 rfl (ct_T_rooted l f s cap (by omega) (fun x hx => Nat.le_trans (lightS h39.1 hx) (by decide)))) rfl ?_
    rintro _ _ (⟨rfl, rfl⟩ | ⟨b, G, roots, s2, c2, rfl, rfl, hne, hlen, hR⟩)
    · skip
      refine g_v (v_move rfl) rfl ?_
      refine g_v (v_extract (v := .pointer none) rfl rfl) rfl ?_
      refine g_v (v_extract (v := sl none 0 0) rfl rfl) rfl ?_
      refine g_v (v_extract (v := Bo false) rfl rfl) rfl ?_
      refine g_v (v_assign rfl) rfl ?_
      refine g_v (v_assign rfl) rfl ?_
      refine g_v (v_assign rfl) rfl ?_
      refine g_nil ?_
      refine g_seq ?_
      refine g_seq ?_
      refine g_reg ?_
      refine g_v (v_move rfl) rfl ?_
      refine g_v (v_not rfl) rfl ?_
      refine g_nil ?_
      refine g_true rfl ?_
      refine g_seq ?_
      refine g_reg ?_
      refine g_v (v_assign rfl) rfl ?_
      refine g_nil ?_
      refine g_ret1 rfl rfl ?_
      show Bo _ = Bo true
      first | rfl | (simp [hnb, hnn]; done) | (have h8 := (setE_err (S := mkG G) (root := x) (at_ := a) (d := data) (by omega)).resolve_left h84; simp [h8])
    · have hok := RtOk hR (m := 200) (by omega)
      have hrl : 0 < roots.length := List.length_pos_iff.2 hne
      obtain ⟨x, hqx⟩ : ∃ z0, roots[pk which roots.length]? = some z0 := ⟨_, List.getElem?_eq_getElem (pk_lt _ (by omega))⟩
      have hmx := List.mem_of_getElem? hqx
      refine g_v (v_move rfl) rfl ?_
      refine g_v (v_extract (v := ptr b 0) rfl rfl) rfl ?_
      refine g_v (v_extract (v := sl s2 roots.length c2) rfl rfl) rfl ?_
      refine g_v (v_extract (v := Bo true) rfl rfl) rfl ?_
      refine g_v (v_assign rfl) rfl ?_
      refine g_v (v_assign rfl) rfl ?_
      refine g_v (v_assign rfl) rfl ?_
      refine g_nil ?_
      refine g_seq ?_
      refine g_seq ?_
      refine g_reg ?_
      refine g_v (v_move rfl) rfl ?_
      refine g_v (v_not rfl) rfl ?_
      refine g_nil ?_
      refine g_false rfl ?_
      refine g_skip ?_
      refine g_seq ?_
      refine g_reg ?_
      refine g_v (v_move rfl) rfl ?_
      refine g_v (v_move rfl) rfl ?_
      refine g_v (v_mask 10 rfl (by decide) (by decide)) rfl ?_
      refine g_v (v_move rfl) rfl ?_
      refine g_v (v_len Try.underlying45 rfl) rfl ?_
      refine g_v (v_rem (r := ((pk which roots.length : Nat) : Int)) rfl rfl (by omega) (pk_rem _)) rfl ?_
      refine g_v (v_idxS (pk which roots.length) Try.underlying45 Try.sizeOf3 rfl rfl rfl (pk_lt _ (by omega)) (by rw [intR_len]; exact pk_lt _ (by omega))) rfl ?_
      refine g_v (v_loadS0 (v := I x) Try.isAgg3 rfl (intR_at hqx) rfl) rfl ?_
      refine g_v (v_assign rfl) rfl ?_
      refine g_nil ?_
      refine g_seq ?_
      refine g_reg ?_
      refine g_l (l_alloc (wasC (fun _ => []) 0) zeroW) rfl ?_
      rintro _ _ ⟨b13, rfl, rfl⟩
      refine g_nil ?_
      rw [wasC_0 (fun _ => []) (getS (mkG G) x)]
      refine g_seq ?_
      refine g_seq ?_
      refine g_reg ?_
      refine g_v (v_assign rfl) rfl ?_
      refine g_nil ?_
      refine g_block ?_
      refine g_loop (α := Nat) (fun t => t ≤ 16) (fun t => U [(0, sl s l.length cap), (2, I a), (3, Str data), (10, ptr b 0), (12, I x), (13, ptr b13 0), (14, I t)]) (fun t => pt b13 (.cells (wasC (getS (mkG G) x) t) 36 (0, 0)) :: ixl b (mkG G) :: owL 3 1 s2 c2 (intR roots) :: acts s l f :: F) (fun t => 16 - t) 0 (by omega) [0, 2, 3, 10, 12, 13, 14] rfl rfl ?_
      intro t ht
      refine g_seq ?_
      refine g_seq ?_
      refine g_reg ?_
      refine g_v (v_move rfl) rfl ?_
      refine g_v (v_lss rfl rfl) rfl ?_
      refine g_nil ?_
      refine g_cond rfl (fun h57 => ?_) (fun h57 => ?_)
      · simp at h57
        have h16 : t < 16 := by omega
        refine g_skip ?_
        refine g_seq ?_
        refine g_block ?_
        refine g_reg ?_
        refine g_v (v_move rfl) rfl ?_
        refine g_v (v_move rfl) rfl ?_
        refine g_v (v_move rfl) rfl ?_
        refine g_v (v_move rfl) rfl ?_
        refine g_l (l_call (Pre := [ixl b (mkG G)]) Try.call25 rfl (ct_index_Index_Get b (mkG G) x t 200 hok (by decide) h16)) rfl ?_
        rintro _ _ ⟨rfl, rfl⟩
        refine g_v (v_idxA t Try.underlying36 Try.sizeOf9 rfl rfl rfl h16) rfl ?_
        refine g_l0 (l_store (wasC (getS (mkG G) x) (t + 1)) Try.sizeOf9 rfl rfl rfl (by rw [wasC_size]; omega) (wasC_set h16 (by omega))) ?_
        rintro _ _ rfl
        refine g_nil ?_
        refine g_blk ?_
        refine g_reg ?_
        refine g_v (v_move rfl) rfl ?_
        refine g_v (v_add rfl rfl (w64 (by omega))) rfl ?_
        refine g_v (v_assign rfl) rfl ?_
        refine g_nil ?_
        exact g_again (t + 1) (by omega) (by omega) [0, 2, 3, 10, 12, 13, 14] rfl rfl
      · simp at h57
        obtain rfl : t = 16 := by omega
        refine g_exit rfl ?_
        refine g_seq ?_
        refine g_openX b (mkG G) ?_
        intro p r
        refine g_reg ?_
        refine g_v (v_move rfl) rfl ?_
        refine g_v (v_nilCheck rfl) rfl ?_
        refine g_v (v_fieldAddr 0 Try.underlying63 rfl rfl Try.sizeOf41 (by decide) rfl) rfl ?_
        refine g_v (v_load (v := ptr p 0) Try.isAgg41 rfl rfl) rfl ?_
        refine g_l (l_call (Pre := [plb p (mkG G).B]) Try.call17 rfl (ct_pool_Numbers p (mkG G).B)) rfl ?_
        rintro _ _ ⟨s70, c70, rfl, rfl⟩
        refine g_shutX p r b (mkG G) (.refl _) ?_
        refine g_v (v_len Try.underlying45 rfl) rfl ?_
        refine g_v (v_assign rfl) rfl ?_
        refine g_nil ?_
        refine g_seq ?_
        refine g_reg ?_
        refine g_v (v_move rfl) rfl ?_
        refine g_l (l_call (Pre := [ixl b (mkG G)]) Try.call26 rfl (ct_index_Numbers b (mkG G))) rfl ?_
        rintro _ _ ⟨s73, c73, rfl, rfl⟩
        refine g_v (v_len Try.underlying45 rfl) rfl ?_
        refine g_v (v_assign rfl) rfl ?_
        refine g_nil ?_
        refine g_seq ?_
        refine g_reg ?_
        refine g_v (v_move rfl) rfl ?_
        refine g_v (v_move rfl) rfl ?_
        refine g_v (v_move rfl) rfl ?_
        refine g_v (v_move rfl) rfl ?_
        refine g_l (l_call (Pre := [ixl b (mkG G)]) Try.call27 rfl (ct_index_Index_Set b (mkG G) x a data 200 hok (by decide) (by omega) (by omega) (RtKid hR hmx))) rfl ?_
        rintro _ _ ⟨rfl, rfl⟩
        refine g_v (v_move rfl) rfl ?_
        refine g_v (v_extract (v := I (setE (mkG G) x a data).1) rfl rfl) rfl ?_
        refine g_v (v_extract (v := errV (setE (mkG G) x a data).2) rfl rfl) rfl ?_
        refine g_v (v_assign rfl) rfl ?_
        refine g_v (v_assign rfl) rfl ?_
        refine g_nil ?_
        refine g_seq ?_
        refine g_seq ?_
        refine g_reg ?_
        refine g_v (v_move rfl) rfl ?_
        refine g_v (v_ineq Try.underlying33 rfl) rfl ?_
        refine g_nil ?_
        refine g_cond rfl (fun h84 => ?_) (fun h84 => ?_)
        · simp at h84
          refine g_seq ?_
          refine g_reg ?_
          refine g_v (v_move rfl) rfl ?_
          refine g_l (l_call (Pre := []) Try.call22 rfl (ct_T_numb (setE (mkG G) x a data).2)) rfl ?_
          rintro _ _ ⟨rfl, rfl⟩
          refine g_v (v_eql rfl rfl) rfl ?_
          refine g_v (v_assign rfl) rfl ?_
          refine g_nil ?_
          refine g_ret1 rfl rfl ?_
          show Bo _ = Bo true
          first | rfl | (simp [hnb, hnn]; done) | (have h8 := (setE_err (S := mkG G) (root := x) (at_ := a) (d := data) (by omega)).resolve_left h84; simp [h8])
        · simp at h84
          obtain ⟨G', hS, hO⟩ := set_mk hR.V (RtRt hR hmx) (by omega : a < 16) (Prod.ext rfl h84 : setE (mkG G) x a data = ((setE (mkG G) x a data).1, 0))
          rw [hS]
          have hok' := RtOk (RtSet hR hO) (m := 200) (by simp; omega)
          have hsame : ∀ t, t < 16 → getS (mkG G') x t = getS (mkG G) x t := fun t ht => get_same hR.V hO.V hO.R hO.L hO.D (RtRt hR hmx) ht
          refine g_skip ?_
          refine g_seq ?_
          refine g_seq ?_
          refine g_reg ?_
          refine g_v (v_assign rfl) rfl ?_
          refine g_nil ?_
          refine g_block ?_
          refine g_loop (α := Nat) (fun t => t ≤ 16) (fun t => U [(0, sl s l.length cap), (2, I a), (3, Str data), (10, ptr b 0), (12, I x), (13, ptr b13 0), (15, I (ids 40 (mkG G).B).length), (16, I (ids 24 (mkG G).N).length), (17, I (setE (mkG G) x a data).1), (19, I t)]) (fun t => ixl b (mkG G') :: pt b13 (.cells (wasC (getS (mkG G) x) 16) 36 (0, 0)) :: owL 3 1 s2 c2 (intR roots) :: acts s l f :: F) (fun t => 16 - t) 0 (by omega) [0, 2, 3, 10, 12, 13, 15, 16, 17, 19] rfl rfl ?_
          intro t ht
          refine g_seq ?_
          refine g_seq ?_
          refine g_reg ?_
          refine g_v (v_move rfl) rfl ?_
          refine g_v (v_lss rfl rfl) rfl ?_
          refine g_nil ?_
          refine g_cond rfl (fun h89 => ?_) (fun h89 => ?_)
          · simp at h89
            have h16 : t < 16 := by omega
            refine g_skip ?_
            refine g_seq ?_
            refine g_block ?_
            refine g_seq ?_
            refine g_reg ?_
            refine g_v (v_move rfl) rfl ?_
            refine g_v (v_idxA t Try.underlying36 Try.sizeOf9 rfl rfl rfl h16) rfl ?_
            refine g_v (v_load (v := Str (getS (mkG G) x t)) Try.isAgg9 rfl (wasC_at h16 (by omega))) rfl ?_
            refine g_v (v_assign rfl) rfl ?_
            refine g_nil ?_
            refine g_seq ?_
            refine g_seq ?_
            refine g_reg ?_
            refine g_v (v_move rfl) rfl ?_
            refine g_v (v_move rfl) rfl ?_
            refine g_v (v_eql rfl rfl) rfl ?_
            refine g_nil ?_
            refine g_cond rfl (fun h97 => ?_) (fun h97 => ?_)
            · simp at h97
              have hget : getS (mkG G') (setE (mkG G) x a data).1 t = data := by rw [hO.get t h16, if_pos (by omega)]
              refine g_reg ?_
              refine g_v (v_move rfl) rfl ?_
              refine g_v (v_assign rfl) rfl ?_
              refine g_nil ?_
              refine g_seq ?_
              refine g_draw (Lf := [pt b13 (.cells (wasC (getS (mkG G) x) 16) 36 (0, 0))]) [(0, false), (1, false), (2, false), (4, false), (5, false), (6, false), (3, true), (7, false), (8, false), (9, false), (10, false), (11, false), (13, false), (12, true), (14, false), (15, false)] (by kernel_rfl) (by kernel_rfl) rfl (by kernel_rfl) ?_
              refine d_v rfl (v_move rfl) rfl ?_
              refine d_v rfl (v_move rfl) rfl ?_
              refine d_v rfl (v_move rfl) rfl ?_
              refine d_v rfl (v_move rfl) rfl ?_
              refine d_v rfl (v_idxA t Try.underlying36 Try.sizeOf9 rfl rfl rfl h16) rfl ?_
              refine d_v rfl (v_load (v := Str (getS (mkG G) x t)) Try.isAgg9 rfl (wasC_at h16 (by omega))) rfl ?_
              refine d_l rfl (l_call (Pre := [ixl b (mkG G')]) Try.call25 rfl (ct_index_Index_Get b (mkG G') x t 200 hok' (by decide) h16)) rfl ?_
              rintro _ _ ⟨rfl, rfl⟩
              rw [hsame t h16]
              refine d_v rfl (v_sneq rfl rfl) rfl ?_
              refine d_v rfl (v_move rfl) rfl ?_
              refine d_gv1 rfl rfl rfl (by simp) (v_move rfl) rfl ?_
              refine d_gv1 rfl rfl rfl (by simp) (v_move rfl) rfl ?_
              refine d_gv1 rfl rfl rfl (by simp) (v_move rfl) rfl ?_
              refine d_gv1 rfl rfl rfl (by simp) (v_move rfl) rfl ?_
              refine d_gl rfl rfl rfl (by simp) (l_call (Pre := [ixl b (mkG G')]) Try.call25 rfl (ct_index_Index_Get b (mkG G') (setE (mkG G) x a data).1 t 200 hok' (by decide) h16)) rfl ?_
              rintro _ _ ⟨rfl, rfl⟩
              rw [hget]
              refine d_gv1 rfl rfl rfl (by simp) (v_sneq rfl rfl) rfl ?_
              refine d_v rfl (v_or rfl rfl) rfl ?_
              refine d_nil ?_
              refine g_cond rfl (fun h114 => ?_) (fun h114 => ?_)
              · simp at h114
              · skip
                refine g_skip ?_
                refine g_blk ?_
                refine g_reg ?_
                refine g_v (v_move rfl) rfl ?_
                refine g_v (v_add rfl rfl (w64 (by omega))) rfl ?_
                refine g_v (v_assign rfl) rfl ?_
                refine g_nil ?_
                exact g_again (t + 1) (by omega) (by omega) [0, 2, 3, 10, 12, 13, 15, 16, 17, 19] rfl rfl
            · simp at h97
              have hget : getS (mkG G') (setE (mkG G) x a data).1 t = getS (mkG G) x t := by rw [hO.get t h16, if_neg (by omega)]
              refine g_skip ?_
              refine g_seq ?_
              refine g_draw (Lf := [pt b13 (.cells (wasC (getS (mkG G) x) 16) 36 (0, 0))]) [(0, false), (1, false), (2, false), (4, false), (5, false), (6, false), (3, true), (7, false), (8, false), (9, false), (10, false), (11, false), (13, false), (12, true), (14, false), (15, false)] (by kernel_rfl) (by kernel_rfl) rfl (by kernel_rfl) ?_
              refine d_v rfl (v_move rfl) rfl ?_
              refine d_v rfl (v_move rfl) rfl ?_
              refine d_v rfl (v_move rfl) rfl ?_
              refine d_v rfl (v_move rfl) rfl ?_
              refine d_v rfl (v_idxA t Try.underlying36 Try.sizeOf9 rfl rfl rfl h16) rfl ?_
              refine d_v rfl (v_load (v := Str (getS (mkG G) x t)) Try.isAgg9 rfl (wasC_at h16 (by omega))) rfl ?_
              refine d_l rfl (l_call (Pre := [ixl b (mkG G')]) Try.call25 rfl (ct_index_Index_Get b (mkG G') x t 200 hok' (by decide) h16)) rfl ?_
              rintro _ _ ⟨rfl, rfl⟩
              rw [hsame t h16]
              refine d_v rfl (v_sneq rfl rfl) rfl ?_
              refine d_v rfl (v_move rfl) rfl ?_
              refine d_gv1 rfl rfl rfl (by simp) (v_move rfl) rfl ?_
              refine d_gv1 rfl rfl rfl (by simp) (v_move rfl) rfl ?_
              refine d_gv1 rfl rfl rfl (by simp) (v_move rfl) rfl ?_
              refine d_gv1 rfl rfl rfl (by simp) (v_move rfl) rfl ?_
              refine d_gl rfl rfl rfl (by simp) (l_call (Pre := [ixl b (mkG G')]) Try.call25 rfl (ct_index_Index_Get b (mkG G') (setE (mkG G) x a data).1 t 200 hok' (by decide) h16)) rfl ?_
              rintro _ _ ⟨rfl, rfl⟩
              rw [hget]
              refine d_gv1 rfl rfl rfl (by simp) (v_sneq rfl rfl) rfl ?_
              refine d_v rfl (v_or rfl rfl) rfl ?_
              refine d_nil ?_
              refine g_cond rfl (fun h114 => ?_) (fun h114 => ?_)
              · simp at h114
              · skip
                refine g_skip ?_
                refine g_blk ?_
                refine g_reg ?_
                refine g_v (v_move rfl) rfl ?_
                refine g_v (v_add rfl rfl (w64 (by omega))) rfl ?_
                refine g_v (v_assign rfl) rfl ?_
                refine g_nil ?_
                exact g_again (t + 1) (by omega) (by omega) [0, 2, 3, 10, 12, 13, 15, 16, 17, 19] rfl rfl
          · skip
            refine g_exit rfl ?_
            refine g_seq ?_
            refine g_openX b (mkG G') ?_
            intro p r
            have hi1 := ids_len_le 40 (mkG G).B
            have hi2 := ids_len_le 24 (mkG G).N
            have hnb : decide (((ids 40 (mkG G').B).length : Int) ≤ ((ids 40 (mkG G).B).length : Int) + 1) = true := decide_eq_true (by have := hO.nB; omega)
            have hnn : decide (((ids 24 (mkG G').N).length : Int) ≤ ((ids 24 (mkG G).N).length : Int) + 2) = true := decide_eq_true (by have := hO.nN; omega)
            refine g_reg ?_
            refine g_v (v_move rfl) rfl ?_
            refine g_v (v_nilCheck rfl) rfl ?_
            refine g_v (v_fieldAddr 0 Try.underlying63 rfl rfl Try.sizeOf41 (by decide) rfl) rfl ?_
            refine g_v (v_load (v := ptr p 0) Try.isAgg41 rfl rfl) rfl ?_
            refine g_l (l_call (Pre := [plb p (mkG G').B]) Try.call17 rfl (ct_pool_Numbers p (mkG G').B)) rfl ?_
            rintro _ _ ⟨s119, c119, rfl, rfl⟩
            refine g_shutX p r b (mkG G') (.refl _) ?_
            refine g_v (v_len Try.underlying45 rfl) rfl ?_
            refine g_v (v_move rfl) rfl ?_
            refine g_v (v_add rfl rfl (w64 (by omega))) rfl ?_
            refine g_v (v_leq rfl rfl) rfl ?_
            refine g_v (v_move rfl) rfl ?_
            refine g_gv1 rfl rfl hnb (v_move rfl) rfl ?_
            refine g_gl rfl rfl hnb (l_call (Pre := [ixl b (mkG G')]) Try.call26 rfl (ct_index_Numbers b (mkG G'))) rfl ?_
            rintro _ _ ⟨s126, c126, rfl, rfl⟩
            refine g_gv1 rfl rfl hnb (v_len Try.underlying45 rfl) rfl ?_
            refine g_gv1 rfl rfl hnb (v_move rfl) rfl ?_
            refine g_gv1 rfl rfl hnb (v_add rfl rfl (w64 (by omega))) rfl ?_
            refine g_gv1 rfl rfl hnb (v_leq rfl rfl) rfl ?_
            refine g_v (v_and rfl rfl) rfl ?_
            refine g_v (v_assign rfl) rfl ?_
            refine g_nil ?_
            refine g_ret1 rfl rfl ?_
            show Bo _ = Bo true
            first | rfl | (simp [hnb, hnn]; done) | (have h8 := (setE_err (S := mkG G) (root := x) (at_ := a) (d := data) (by omega)).resolve_left h84; simp [h8])

end Go.Proofs.Ythdjckbjjfiopac
