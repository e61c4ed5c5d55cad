/- The walk through the law TopFree. No condition. -/
import Derived.Test.YthdjckbjjfiopacTopIx
import Derived.Test.YthdjckbjjfiopacNums
namespace Go.Proofs.Ythdjckbjjfiopac
open Go.Sl Go.Proofs
set_option linter.unusedVariables false
set_option linter.unusedSimpArgs false
theorem cnt_erase {l : List Int} {k : Nat} {x : Int} (h : l[k]? = some x) (q : Int) : cnt (l.take k ++ l.drop (k + 1)) q = cnt l q - if q = x ∧ x ≠ 0 then 1 else 0 := by
  have hl : l = l.take k ++ x :: l.drop (k + 1) := by
    obtain ⟨hk, e⟩ := List.getElem?_eq_some_iff.1 h
    rw [← e, ← List.drop_eq_getElem_cons hk, List.take_append_drop]
  have h1 : cnt l q = cnt (l.take k ++ x :: l.drop (k + 1)) q := by rw [← hl]
  rw [h1]
  unfold cnt
  by_cases hq : q = 0
  · subst hq
    rw [if_pos rfl, if_pos rfl, if_neg (fun h => h.2 h.1.symm)]
    rfl
  · rw [if_neg hq, if_neg hq, List.count_append, List.count_append, List.count_cons]
    by_cases hx : x = q
    · subst hx; simp [hq]; omega
    · simp [hx, Ne.symm hx]
theorem len_erase {l : List Int} {k : Nat} (h : k < l.length) : (l.take k ++ l.drop (k + 1)).length = l.length - 1 := by simp; omega
theorem RtFree {G G' : Gh} {roots : List Int} {q : Int} {k : Nat} (h : Rt G roots) (hk : roots[k]? = some q) (V : Val G') (e : LessR G G') (e3 : ∀ p, G'.eR p = G.eR p - if p = q ∧ q ≠ 0 then 1 else 0) : Rt G' (roots.take k ++ roots.drop (k + 1)) :=
  ⟨V, fun p => by rw [e.eL]; exact h.eL p, fun p => by rw [e.eB]; exact h.eB p, fun p => by rw [e3, h.eR, cnt_erase hk]⟩
theorem RtHeld {G : Gh} {roots : List Int} {q : Int} (h : Rt G roots) (hq : q ∈ roots) : q ≠ 0 → 1 ≤ G.eR q := fun h0 => by rw [h.eR]; exact cnt_mem hq h0
theorem rows_erase (l : List Int) (k : Nat) : [] ++ ((intR l).drop 0).take k ++ ((intR l).drop (k + 1)).take (l.length - (k + 1)) = intR (l.take k ++ l.drop (k + 1)) := by
  rw [List.take_of_length_le (l := (intR l).drop (k + 1)) (by simp [intR])]
  simp [intR, List.map_take, List.map_drop]
theorem Rt_none {G : Gh} (h : Rt G []) : ids 24 (mkG G).N = [] ∧ ids 40 (mkG G).B = [] := by
  have hR : ∀ q, G.R q = none := fun q => by
    by_cases h0 : q = 0
    · rw [h0]; exact sup0 h.V.sR
    · cases e : G.R q with
      | none => rfl
      | some n =>
        have := (h.V.pR q h0).1 (by rw [e]; rfl)
        rw [h.eR] at this
        simp [cnt] at this
  have tR : ∀ q, tot G.R q = 0 := fun q => sumL_zero fun k _ => by rw [hR]; rfl
  have hL : ∀ q, G.L q = none := fun q => by
    by_cases h0 : q = 0
    · rw [h0]; exact sup0 h.V.sL
    · cases e : G.L q with
      | none => rfl
      | some n =>
        have := (h.V.pL q h0).1 (by rw [e]; rfl)
        rw [h.eL, tR] at this
        omega
  have tL : ∀ q, tot G.L q = 0 := fun q => sumL_zero fun k _ => by rw [hL]; rfl
  have hD : ∀ q, G.D q = none := fun q => by
    by_cases h0 : q = 0
    · rw [h0]; exact sup0 h.V.sD
    · cases e : G.D q with
      | none => rfl
      | some n =>
        have := (h.V.pD q h0).1 (by rw [e]; rfl)
        rw [h.eB, tL] at this
        omega
  have e1 : ids 24 (mkG G).N = ids 24 (fun _ => (none : Option Nd)) := ids_eq fun q => by rw [mkN_isSome, hR, hL]; rfl
  have e2 : ids 40 (mkG G).B = ids 40 (fun _ => (none : Option Bk)) := ids_eq fun q => by rw [mkB_isSome, hD]; rfl
  rw [e1, e2]
  exact ⟨by simp [ids], by simp [ids]⟩

theorem ct_T_TopFree (l : List ActM) (f : Nat → ActZ) (s : Option Addr) (cap : Nat) (ord : List Int) (so : Option Addr) (capo : Nat) (hl : l.length ≤ 9223372036854775807) (hla : ∀ x ∈ l, x.puts.length ≤ 9223372036854775807 ∧ x.changes.length ≤ 9223372036854775807) (hol : ord.length ≤ 9223372036854775807) (F : List HProp) : Ct Try.prog 6 [sl s l.length cap, sl so ord.length capo] ([acts s l f, roL 1 so (intR ord)] ++ F) (R1 (Bo true) (acts s l f :: roL 1 so (intR ord) :: F)) := by
  show Ct Try.prog 6 [sl s l.length cap, sl so ord.length capo] (acts s l f :: roL 1 so (intR ord) :: F) _
  refine Ct.of Try.func6 rfl 87 Try.ntmps6 (by simp) fun w0 => ?_
  refine g_seq ?_
  refine g_reg ?_
  refine g_v (v_assign rfl) rfl ?_
  refine g_nil ?_
  refine g_seq ?_
  refine g_reg ?_
  refine g_l (l_call (Pre := []) Try.call23 rfl (ct_T_indexed)) rfl ?_
  rintro _ _ ⟨rfl, rfl⟩
  refine g_v (v_assign rfl) rfl ?_
  refine g_nil ?_
  refine g_seq ?_
  refine g_seq ?_
  refine g_reg ?_
  refine g_v (v_move rfl) rfl ?_
  refine g_v (v_not rfl) rfl ?_
  refine g_nil ?_
  refine g_false rfl ?_
  refine g_skip ?_
  refine g_seq ?_
  refine g_seq ?_
  refine g_reg ?_
  refine g_v (v_move rfl) rfl ?_
  refine g_l (l_call (Pre := [acts s l f]) Try.call18 rfl (ct_L_LightActs l f s cap 12 hl hla)) rfl ?_
  rintro _ _ ⟨rfl, rfl⟩
  refine g_v (v_not rfl) rfl ?_
  refine g_v (v_move rfl) rfl ?_
  refine g_gv rfl rfl (fun hg => v_move rfl) rfl rfl ?_
  refine g_gv rfl rfl (fun hg => v_len Try.underlying45 rfl) rfl rfl ?_
  refine g_gv rfl rfl (fun hg => v_gtr rfl rfl) rfl rfl ?_
  refine g_v (v_or rfl rfl) rfl ?_
  refine g_nil ?_
  refine g_cond rfl (fun h21 => ?_) (fun h21 => ?_)
  · skip
    refine g_seq ?_
    refine g_reg ?_
    refine g_v (v_assign rfl) rfl ?_
    refine g_nil ?_
    refine g_ret1 rfl rfl ?_
    exact rfl
  · simp at h21
    have hll := lightL h21.1
    refine g_skip ?_
    refine g_seq ?_
    refine g_reg ?_
    refine g_v (v_move rfl) rfl ?_
    refine g_l (l_call (Pre := [acts s l f]) Try.call24 rfl (ct_T_rooted l f s cap (by omega) (fun x hx => Nat.le_trans (lightS h21.1 hx) (by decide)))) rfl ?_
    rintro _ _ (⟨rfl, rfl⟩ | ⟨b, G, roots, s2, c2, rfl, rfl, hne, hlen, hR⟩)
    · skip
      refine g_v (v_move rfl) rfl ?_
      refine g_v (v_extract (v := .pointer none) rfl rfl) rfl ?_
      refine g_v (v_extract (v := sl none 0 0) rfl rfl) rfl ?_
      refine g_v (v_extract (v := Bo false) rfl rfl) rfl ?_
      refine g_v (v_assign rfl) rfl ?_
      refine g_v (v_assign rfl) rfl ?_
      refine g_v (v_assign rfl) rfl ?_
      refine g_nil ?_
      refine g_seq ?_
      refine g_seq ?_
      refine g_reg ?_
      refine g_v (v_move rfl) rfl ?_
      refine g_v (v_not rfl) rfl ?_
      refine g_nil ?_
      refine g_true rfl ?_
      refine g_seq ?_
      refine g_reg ?_
      refine g_v (v_assign rfl) rfl ?_
      refine g_nil ?_
      refine g_ret1 rfl rfl ?_
      show Bo _ = Bo true
      first | rfl | (simp; done)
    · skip
      refine g_v (v_move rfl) rfl ?_
      refine g_v (v_extract (v := ptr b 0) rfl rfl) rfl ?_
      refine g_v (v_extract (v := sl s2 roots.length c2) rfl rfl) rfl ?_
      refine g_v (v_extract (v := Bo true) rfl rfl) rfl ?_
      refine g_v (v_assign rfl) rfl ?_
      refine g_v (v_assign rfl) rfl ?_
      refine g_v (v_assign rfl) rfl ?_
      refine g_nil ?_
      refine g_seq ?_
      refine g_seq ?_
      refine g_reg ?_
      refine g_v (v_move rfl) rfl ?_
      refine g_v (v_not rfl) rfl ?_
      refine g_nil ?_
      refine g_false rfl ?_
      refine g_skip ?_
      refine g_seq ?_
      refine g_seq ?_
      refine g_reg ?_
      refine g_v (v_assign rfl) rfl ?_
      refine g_nil ?_
      refine g_block ?_
      refine g_loop (α := Nat × Gh × List Int × Option Addr × Nat) (fun z => z.1 ≤ ord.length ∧ z.2.2.1.length ≤ 13 ∧ Rt z.2.1 z.2.2.1) (fun z => U [(1, sl so ord.length capo), (6, ptr b 0), (7, sl z.2.2.2.1 z.2.2.1.length z.2.2.2.2), (8, I z.1)]) (fun z => ixl b (mkG z.2.1) :: owL 3 1 z.2.2.2.1 z.2.2.2.2 (intR z.2.2.1) :: acts s l f :: roL 1 so (intR ord) :: F) (fun z => ord.length - z.1) (0, G, roots, s2, c2) ⟨by simp, by simp only []; omega, hR⟩ [1, 6, 7, 8] rfl rfl ?_
      rintro ⟨i, G, roots, s6, c6⟩ ⟨hi, hrl, hR⟩
      simp only [] at hi hrl hR ⊢
      refine g_seq ?_
      refine g_seq ?_
      refine g_reg ?_
      refine g_v (v_move rfl) rfl ?_
      refine g_v (v_move rfl) rfl ?_
      refine g_v (v_len Try.underlying45 rfl) rfl ?_
      refine g_v (v_lss rfl rfl) rfl ?_
      refine g_nil ?_
      refine g_cond rfl (fun h33 => ?_) (fun h33 => ?_)
      · simp at h33
        have hin : i < ord.length := by omega
        obtain ⟨z, hz⟩ : ∃ z0, ord[i]? = some z0 := ⟨_, List.getElem?_eq_getElem hin⟩
        have hok := RtOk hR (m := 200) (by omega)
        refine g_skip ?_
        refine g_seq ?_
        refine g_block ?_
        refine g_seq ?_
        refine g_reg ?_
        refine g_v (v_assign rfl) rfl ?_
        refine g_nil ?_
        refine g_seq ?_
        refine g_reg ?_
        refine g_v (v_move rfl) rfl ?_
        refine g_v (v_len Try.underlying45 rfl) rfl ?_
        refine g_v (v_gtr rfl rfl) rfl ?_
        refine g_nil ?_
        refine g_cond rfl (fun h38 => ?_) (fun h38 => ?_)
        · simp at h38
          have hrp : 0 < roots.length := by omega
          have hpl := pk_lt z hrp
          obtain ⟨q, hqq⟩ : ∃ z0, roots[pk z roots.length]? = some z0 := ⟨_, List.getElem?_eq_getElem (pk_lt _ (by omega))⟩
          have hmq := List.mem_of_getElem? hqq
          refine g_seq ?_
          refine g_reg ?_
          refine g_v (v_move rfl) rfl ?_
          refine g_v (v_move rfl) rfl ?_
          refine g_v (v_idxS (i) Try.underlying45 Try.sizeOf3 rfl rfl rfl hin (by rw [intR_len]; exact hin)) rfl ?_
          refine g_v (v_loadS0 (v := I z) Try.isAgg3 rfl (intR_at hz) rfl) rfl ?_
          refine g_v (v_mask 10 rfl (by decide) (by decide)) rfl ?_
          refine g_v (v_move rfl) rfl ?_
          refine g_v (v_len Try.underlying45 rfl) rfl ?_
          refine g_v (v_rem (r := (((pk z roots.length) : Nat) : Int)) rfl rfl (by omega) (pk_rem _)) rfl ?_
          refine g_v (v_assign rfl) rfl ?_
          refine g_nil ?_
          refine g_seq ?_
          refine g_reg ?_
          refine g_v (v_move rfl) rfl ?_
          refine g_v (v_move rfl) rfl ?_
          refine g_v (v_move rfl) rfl ?_
          refine g_v (v_idxS ((pk z roots.length)) Try.underlying45 Try.sizeOf3 rfl rfl rfl (pk_lt _ (by omega)) (by rw [intR_len]; exact (pk_lt _ (by omega)))) rfl ?_
          refine g_v (v_loadS0 (v := I q) Try.isAgg3 rfl (intR_at hqq) rfl) rfl ?_
          refine g_l (l_call (Pre := [ixl b (mkG G)]) Try.call28 rfl (ct_index_Index_Free b (mkG G) q 200 hok (by decide))) rfl ?_
          rintro _ _ ⟨rfl, rfl⟩
          refine g_nil ?_
          refine g_cap s6 (fun hcap => ?_)
          rw [intR_len] at hcap
          refine g_nilown 3 1 [] rfl ?_
          refine g_draw (Lf := [owL 3 1 s6 c6 (intR roots)]) [(0, false), (1, false), (2, false), (4, false), (5, false), (6, false), (7, false), (3, true), (8, true), (9, false)] (by kernel_rfl) (by kernel_rfl) rfl (by kernel_rfl) ?_
          refine d_v rfl (v_move rfl) rfl ?_
          refine d_v rfl (v_move rfl) rfl ?_
          refine d_v rfl (v_slHi (h := (pk z roots.length)) Try.underlying45 Try.sizeOf3 rfl rfl rfl (by omega)) rfl ?_
          refine d_v rfl (v_move rfl) rfl ?_
          refine d_v rfl (v_move rfl) rfl ?_
          refine d_v rfl (v_add rfl rfl (w64 (by omega))) rfl ?_
          refine d_v rfl (v_slLo (l := (pk z roots.length) + 1) Try.underlying45 Try.sizeOf3 rfl rfl (by omega) (by omega)) rfl ?_
          refine d_l rfl (l_appendAt (s2 := s6) (p := 0) Try.underlying45 Try.sizeOf3 Try.zeroValue3 rfl Try.typeInfo3 (by decide) rfl rfl rfl (.inl ⟨rfl, rfl⟩) (by rw [intR_len]; omega) (fun r hr => by simp only [intR, List.mem_map] at hr; obtain ⟨x, _, rfl⟩ := hr; rfl) (fun r hr => by simp only [intR, List.mem_map] at hr; obtain ⟨x, _, rfl⟩ := hr; rfl) ⟨by omega, by decide, by decide⟩) rfl ?_
          rintro _ _ ⟨s56, c56, rfl, rfl⟩
          refine d_l rfl (l_appendAt (s2 := s6) (p := (pk z roots.length) + 1) Try.underlying45 Try.sizeOf3 Try.zeroValue3 rfl Try.typeInfo3 (by decide) rfl rfl (by simp [intR]; omega) (by unfold At; split; exact .inr (.inr (by omega)); exact .inr (.inl rfl)) (by rw [intR_len]; omega) (fun r hr => by simp only [intR, List.mem_map] at hr; obtain ⟨x, _, rfl⟩ := hr; rfl) (fun r hr => by simp only [intR, List.mem_map] at hr; obtain ⟨x, _, rfl⟩ := hr; rfl) ⟨by omega, by decide, by decide⟩) rfl ?_
          rintro _ _ ⟨s61, c61, rfl, rfl⟩
          rw [rows_erase]
          refine d_v rfl (v_assign rfl) rfl ?_
          refine d_nil ?_
          refine g_blk ?_
          refine g_reg ?_
          refine g_v (v_move rfl) rfl ?_
          refine g_v (v_add rfl rfl (w64 (by omega))) rfl ?_
          refine g_v (v_assign rfl) rfl ?_
          refine g_nil ?_
          obtain ⟨G', V', hS, hL, e3⟩ := unR_mk hR.V (RtHeld hR hmq)
          rw [hS, show 0 + (pk z roots.length) + (roots.length - ((pk z roots.length) + 1)) = (roots.take (pk z roots.length) ++ roots.drop ((pk z roots.length) + 1)).length by rw [len_erase (by omega)]; omega]
          exact g_again (i + 1, G', roots.take (pk z roots.length) ++ roots.drop ((pk z roots.length) + 1), s61, c61) ⟨by simp only []; omega, by simp only []; rw [len_erase (by omega)]; omega, RtFree hR hqq V' hL e3⟩ (by simp only []; omega) [1, 6, 7, 8] rfl (by simp [U])
        · skip
          refine g_skip ?_
          refine g_blk ?_
          refine g_reg ?_
          refine g_v (v_move rfl) rfl ?_
          refine g_v (v_add rfl rfl (w64 (by omega))) rfl ?_
          refine g_v (v_assign rfl) rfl ?_
          refine g_nil ?_
          exact g_again (i + 1, G, roots, s6, c6) ⟨by simp only []; omega, hrl, hR⟩ (by simp only []; omega) [1, 6, 7, 8] rfl rfl
      · skip
        refine g_exit rfl ?_
        refine g_seq ?_
        refine g_seq ?_
        refine g_reg ?_
        refine g_v (v_assign rfl) rfl ?_
        refine g_nil ?_
        refine g_block ?_
        refine g_loop (α := Nat × Gh) (fun z => z.1 ≤ roots.length ∧ Rt z.2 (roots.drop z.1)) (fun z => U [(6, ptr b 0), (7, sl s6 roots.length c6), (10, I z.1)]) (fun z => ixl b (mkG z.2) :: owL 3 1 s6 c6 (intR roots) :: acts s l f :: roL 1 so (intR ord) :: F) (fun z => roots.length - z.1) (0, G) ⟨by simp, by simpa using hR⟩ [6, 7, 10] rfl rfl ?_
        rintro ⟨j, G⟩ ⟨hj, hR⟩
        simp only [] at hj hR ⊢
        refine g_seq ?_
        refine g_seq ?_
        refine g_reg ?_
        refine g_v (v_move rfl) rfl ?_
        refine g_v (v_move rfl) rfl ?_
        refine g_v (v_len Try.underlying45 rfl) rfl ?_
        refine g_v (v_lss rfl rfl) rfl ?_
        refine g_nil ?_
        refine g_cond rfl (fun h65 => ?_) (fun h65 => ?_)
        · simp at h65
          have hjn : j < roots.length := by omega
          obtain ⟨q, hqq⟩ : ∃ z0, roots[j]? = some z0 := ⟨_, List.getElem?_eq_getElem hjn⟩
          have hq0 : (roots.drop j)[0]? = some q := by simpa using hqq
          have hmq := List.mem_of_getElem? hq0
          have hok := RtOk hR (m := 200) (by simp; omega)
          refine g_skip ?_
          refine g_seq ?_
          refine g_block ?_
          refine g_reg ?_
          refine g_v (v_move rfl) rfl ?_
          refine g_v (v_move rfl) rfl ?_
          refine g_v (v_move rfl) rfl ?_
          refine g_v (v_idxS (j) Try.underlying45 Try.sizeOf3 rfl rfl rfl hjn (by rw [intR_len]; exact hjn)) rfl ?_
          refine g_v (v_loadS0 (v := I q) Try.isAgg3 rfl (intR_at hqq) rfl) rfl ?_
          refine g_l (l_call (Pre := [ixl b (mkG G)]) Try.call28 rfl (ct_index_Index_Free b (mkG G) q 200 hok (by decide))) rfl ?_
          rintro _ _ ⟨rfl, rfl⟩
          refine g_nil ?_
          refine g_blk ?_
          refine g_reg ?_
          refine g_v (v_move rfl) rfl ?_
          refine g_v (v_add rfl rfl (w64 (by omega))) rfl ?_
          refine g_v (v_assign rfl) rfl ?_
          refine g_nil ?_
          obtain ⟨G', V', hS, hL, e3⟩ := unR_mk hR.V (RtHeld hR hmq)
          rw [hS]
          exact g_again (j + 1, G') ⟨by simp only []; omega, by have := RtFree (k := 0) hR hq0 V' hL e3; simpa using this⟩ (by simp only []; omega) [6, 7, 10] rfl rfl
        · simp at h65
          obtain rfl : j = roots.length := by omega
          refine g_exit rfl ?_
          refine g_seq ?_
          obtain ⟨hN, hB⟩ := Rt_none (G := G) (by simpa using hR)
          refine g_reg ?_
          refine g_v (v_move rfl) rfl ?_
          refine g_l (l_call (Pre := [ixl b (mkG G)]) Try.call26 rfl (ct_index_Numbers b (mkG G))) rfl ?_
          rintro _ _ ⟨s75, c75, rfl, rfl⟩
          rw [hN]
          refine g_openX b (mkG G) ?_
          intro p r
          refine g_v (v_len Try.underlying45 rfl) rfl ?_
          refine g_v (v_eql rfl rfl) rfl ?_
          refine g_v (v_move rfl) rfl ?_
          refine g_gv1 rfl rfl (by simp) (v_move rfl) rfl ?_
          refine g_gv1 rfl rfl (by simp) (v_nilCheck rfl) rfl ?_
          refine g_gv1 rfl rfl (by simp) (v_fieldAddr 0 Try.underlying63 rfl rfl Try.sizeOf41 (by decide) rfl) rfl ?_
          refine g_gv1 rfl rfl (by simp) (v_load (v := ptr p 0) Try.isAgg41 rfl rfl) rfl ?_
          refine g_gl rfl rfl (by simp) (l_call (Pre := [plb p (mkG G).B]) Try.call17 rfl (ct_pool_Numbers p (mkG G).B)) rfl ?_
          rintro _ _ ⟨s83, c83, rfl, rfl⟩
          rw [hB]
          refine g_gv1 rfl rfl (by simp) (v_len Try.underlying45 rfl) rfl ?_
          refine g_gv1 rfl rfl (by simp) (v_eql rfl rfl) rfl ?_
          refine g_v (v_and rfl rfl) rfl ?_
          refine g_v (v_assign rfl) rfl ?_
          refine g_nil ?_
          refine g_ret1 rfl rfl ?_
          show Bo _ = Bo true
          first | rfl | (simp; done)

end Go.Proofs.Ythdjckbjjfiopac
