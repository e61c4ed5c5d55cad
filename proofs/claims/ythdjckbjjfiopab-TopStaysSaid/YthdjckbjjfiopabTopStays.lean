/- The walk through the law TopStays. No condition. -/
import Derived.Test.YthdjckbjjfiopabTopVa
namespace Go.Proofs.Ythdjckbjjfiopab
open Go.Sl Go.Proofs
set_option linter.unusedVariables false
set_option linter.unusedSimpArgs false

theorem ct_T_TopStays (l : List ActM) (f : Nat → ActZ) (s : Option Addr) (cap : Nat) (m : List ActM) (g : Nat → ActZ) (t : Option Addr) (capm : Nat) (id : Int) (hl : l.length ≤ 9223372036854775807) (hla : ∀ x ∈ l, x.puts.length ≤ 9223372036854775807 ∧ x.changes.length ≤ 9223372036854775807) (hm : m.length ≤ 9223372036854775807) (hma : ∀ x ∈ m, x.puts.length ≤ 9223372036854775807 ∧ x.changes.length ≤ 9223372036854775807) (F : List HProp) : Ct Try.prog 11 [sl s l.length cap, sl t m.length capm, I id] ([acts s l f, acts t m g] ++ F) (R1 (Bo true) (acts s l f :: acts t m g :: F)) := by
  show Ct Try.prog 11 [sl s l.length cap, sl t m.length capm, I id] (acts s l f :: acts t m g :: F) _
  refine Ct.of Try.func11 rfl 78 Try.ntmps11 (by simp) fun w0 => ?_
  refine g_seq ?_
  refine g_reg ?_
  refine g_v (v_assign rfl) rfl ?_
  refine g_nil ?_
  refine g_seq ?_
  refine g_reg ?_
  refine g_l (l_call (Pre := []) Try.call50 rfl (ct_T_vaulted)) rfl ?_
  rintro _ _ ⟨rfl, rfl⟩
  refine g_v (v_assign rfl) rfl ?_
  refine g_nil ?_
  refine g_seq ?_
  refine g_seq ?_
  refine g_reg ?_
  refine g_v (v_move rfl) rfl ?_
  refine g_v (v_not rfl) rfl ?_
  refine g_nil ?_
  refine g_false rfl ?_
  refine g_skip ?_
  refine g_seq ?_
  refine g_reg ?_
  refine g_v (v_move rfl) rfl ?_
  refine g_l (l_call (Pre := [acts s l f]) Try.call51 rfl (ct_T_filled l f s cap hl hla)) rfl ?_
  rintro _ _ (⟨rfl, rfl⟩ | ⟨q, S, L, n, G, rfl, rfl, hV, hlight⟩)
  · skip
    refine g_v (v_move rfl) rfl ?_
    refine g_v (v_extract (v := .pointer none) rfl rfl) rfl ?_
    refine g_v (v_extract (v := Bo false) rfl rfl) rfl ?_
    refine g_v (v_assign rfl) rfl ?_
    refine g_v (v_assign rfl) rfl ?_
    refine g_nil ?_
    refine g_seq ?_
    refine g_seq ?_
    refine g_reg ?_
    refine g_v (v_move rfl) rfl ?_
    refine g_v (v_not rfl) rfl ?_
    refine g_v (v_move rfl) rfl ?_
    refine g_no rfl rfl rfl rfl ?_
    refine g_no rfl rfl rfl rfl ?_
    refine g_no rfl rfl rfl rfl ?_
    refine g_v (v_pk1 rfl rfl rfl) rfl ?_
    refine g_nil ?_
    refine g_true rfl ?_
    refine g_seq ?_
    refine g_reg ?_
    refine g_v (v_assign rfl) rfl ?_
    refine g_nil ?_
    refine g_ret1 rfl rfl ?_
    exact rfl
  · skip
    refine g_v (v_move rfl) rfl ?_
    refine g_v (v_extract (v := ptr q 0) rfl rfl) rfl ?_
    refine g_v (v_extract (v := Bo true) rfl rfl) rfl ?_
    refine g_v (v_assign rfl) rfl ?_
    refine g_v (v_assign rfl) rfl ?_
    refine g_nil ?_
    refine g_seq ?_
    refine g_seq ?_
    refine g_reg ?_
    refine g_v (v_move rfl) rfl ?_
    refine g_v (v_not rfl) rfl ?_
    refine g_v (v_move rfl) rfl ?_
    refine g_gv1 rfl rfl rfl (v_move rfl) rfl ?_
    refine g_gl rfl rfl rfl (l_call (Pre := [acts t m g]) Try.call20 rfl (ct_L_LightActs m g t capm 30 hm hma)) rfl ?_
    rintro _ _ ⟨rfl, rfl⟩
    refine g_gv1 rfl rfl rfl (v_not rfl) rfl ?_
    refine g_v (v_or rfl rfl) rfl ?_
    refine g_nil ?_
    refine g_cond rfl (fun h28 => ?_) (fun h28 => ?_)
    · skip
      refine g_seq ?_
      refine g_reg ?_
      refine g_v (v_assign rfl) rfl ?_
      refine g_nil ?_
      refine g_ret1 rfl rfl ?_
      exact rfl
    · have h28' : lightA m 30 = true := by simpa using h28
      have hll := lightL h28'
      refine g_skip ?_
      refine g_seq ?_
      refine g_reg ?_
      refine g_v (v_move rfl) rfl ?_
      refine g_v (v_move rfl) rfl ?_
      refine g_l (l_call (Pre := [vlt q S L n]) Try.call52 rfl (ct_T_blocks q S L n id G hV)) rfl ?_
      rintro v L' hv
      unfold RBlk at hv
      rcases hf : findP L id with _ | p <;> rw [hf] at hv
      · obtain ⟨rfl, rfl⟩ := hv
        refine g_v (v_move rfl) rfl ?_
        refine g_v (v_extract (v := sl none 0 0) rfl rfl) rfl ?_
        refine g_v (v_extract (v := Bo false) rfl rfl) rfl ?_
        refine g_v (v_assign rfl) rfl ?_
        refine g_v (v_assign rfl) rfl ?_
        refine g_nil ?_
        refine g_seq ?_
        refine g_seq ?_
        refine g_reg ?_
        refine g_v (v_move rfl) rfl ?_
        refine g_v (v_not rfl) rfl ?_
        refine g_nil ?_
        refine g_true rfl ?_
        refine g_seq ?_
        refine g_reg ?_
        refine g_v (v_assign rfl) rfl ?_
        refine g_nil ?_
        refine g_ret1 rfl rfl ?_
        exact rfl
      · obtain ⟨s9, c9, rfl, rfl⟩ := hv
        refine g_freeze s9 ?_
        have hps := hV.pts p (findP_some hf).1
        refine g_v (v_move rfl) rfl ?_
        refine g_v (v_extract (v := sl s9 (blk S p).length c9) rfl rfl) rfl ?_
        refine g_v (v_extract (v := Bo true) rfl rfl) rfl ?_
        refine g_v (v_assign rfl) rfl ?_
        refine g_v (v_assign rfl) rfl ?_
        refine g_nil ?_
        refine g_seq ?_
        refine g_seq ?_
        refine g_reg ?_
        refine g_v (v_move rfl) rfl ?_
        refine g_v (v_not rfl) rfl ?_
        refine g_nil ?_
        refine g_false rfl ?_
        refine g_skip ?_
        refine g_seq ?_
        refine g_seq ?_
        refine g_reg ?_
        refine g_v (v_assign rfl) rfl ?_
        refine g_nil ?_
        refine g_block ?_
        refine g_loop (α := Nat × Nat × SI × List Pt × Int) (fun z => z.1 ≤ m.length ∧ ∃ G0, Vok z.2.2.1 z.2.2.2.1 z.2.2.2.2 G0 ∧ findP z.2.2.2.1 id = some p ∧ blk z.2.2.1 p = blk S p) (fun z => U [(1, sl t m.length capm), (2, I id), (8, ptr z.2.1 0), (9, sl s9 (blk S p).length c9), (11, I z.1)]) (fun z => vlt z.2.1 z.2.2.1 z.2.2.2.1 z.2.2.2.2 :: roL 1 s9 (strR (blk S p)) :: acts s l f :: acts t m g :: F) (fun z => m.length - z.1) (0, q, S, L, n) ⟨by simp, G, hV, hf, rfl⟩ [1, 2, 8, 9, 11] rfl rfl ?_
        rintro ⟨i, q', S', L', n'⟩ ⟨hi, G', hV', hp', hb'⟩
        simp only [] at hi hV' hp' hb' ⊢
        refine g_seq ?_
        refine g_seq ?_
        refine g_reg ?_
        refine g_v (v_move rfl) rfl ?_
        refine g_v (v_move rfl) rfl ?_
        refine g_v (v_len Try.underlying34 rfl) rfl ?_
        refine g_v (v_lss rfl rfl) rfl ?_
        refine g_nil ?_
        refine g_cond rfl (fun h40 => ?_) (fun h40 => ?_)
        · simp at h40
          have hkn : i < m.length := by omega
          obtain ⟨x, hx⟩ : ∃ x, m[i]? = some x := ⟨_, List.getElem?_eq_getElem hkn⟩
          have hkr : i < (actR m g).length := by rw [actR_len]; exact hkn
          have hxp := lightPu h28' (List.mem_of_getElem? hx)
          refine g_skip ?_
          refine g_seq ?_
          refine g_block ?_
          refine g_seq ?_
          refine g_seq ?_
          refine g_reg ?_
          refine g_v (v_move rfl) rfl ?_
          refine g_v (v_move rfl) rfl ?_
          refine g_v (v_idxS i Try.underlying34 Try.sizeOf46 rfl rfl rfl hkn hkr) rfl ?_
          refine g_v (v_fieldAdrS (j := i) 0 Try.underlying46 rfl rfl Try.sizeOf9 (by decide) rfl hkr) rfl ?_
          refine g_v (v_loadS (v := Str x.kind) Try.isAgg9 rfl (actR_at hx) rfl) rfl ?_
          refine g_v (v_seql rfl rfl) rfl ?_
          refine g_v (v_move rfl) rfl ?_
          refine g_gv rfl rfl (fun hg => v_move rfl) rfl rfl ?_
          refine g_gv rfl rfl (fun hg => v_move rfl) rfl rfl ?_
          refine g_gv rfl rfl (fun hg => v_idxS i Try.underlying34 Try.sizeOf46 rfl rfl rfl hkn hkr) rfl rfl ?_
          refine g_gv rfl rfl (fun hg => v_fieldAdrS (j := i) 2 Try.underlying46 rfl rfl Try.sizeOf3 (by decide) rfl hkr) rfl rfl ?_
          refine g_gv rfl rfl (fun hg => v_loadS (v := I x.a) Try.isAgg3 rfl (actR_at hx) rfl) rfl rfl ?_
          refine g_gv rfl rfl (fun hg => v_move rfl) rfl rfl ?_
          refine g_gv rfl rfl (fun hg => v_eql rfl rfl) rfl rfl ?_
          refine g_v (v_and rfl rfl) rfl ?_
          refine g_nil ?_
          refine g_cond rfl (fun h57 => ?_) (fun h57 => ?_)
          · skip
            refine g_exit rfl ?_
            refine g_reg ?_
            refine g_v (v_move rfl) rfl ?_
            refine g_v (v_add rfl rfl (w64 (by omega))) rfl ?_
            refine g_v (v_assign rfl) rfl ?_
            refine g_nil ?_
            exact g_again (i + 1, q', S', L', n') ⟨by simp only []; omega, G', hV', hp', hb'⟩ (by simp only []; omega) [1, 2, 8, 9, 11] rfl rfl
          · have hnd : ¬ (x.kind = kDrp ∧ x.a = id) := fun h => by simp [kDrp] at h; simp [h.1, h.2] at h57
            refine g_skip ?_
            refine g_seq ?_
            refine g_actPuts t m g i hx ?_
            refine g_reg ?_
            refine g_v (v_move rfl) rfl ?_
            refine g_v (v_move rfl) rfl ?_
            refine g_v (v_move rfl) rfl ?_
            refine g_v (v_idxS i Try.underlying34 Try.sizeOf46 rfl rfl rfl hkn hkr) rfl ?_
            refine g_v (v_loadAS (row := encAct x (g i)) Try.isAgg46 Try.sizeOf46 rfl (actR_at hx) rfl) rfl ?_
            refine g_l (l_call (Pre := [vlt q' S' L' n', roL 2 (g i).1.1 (putR x.puts)]) Try.call53 rfl (ct_T_fill q' S' L' n' x (g i) G' hV' (by omega) (fun p hp => Nat.le_trans (hxp.2 p hp) (by decide)))) rfl ?_
            rintro _ _ ⟨q2, rfl, rfl⟩
            obtain ⟨G1, hV1, hkeep⟩ := fill_keeps (x := x) hV'
            obtain ⟨hf1, hb1⟩ := hkeep id p hp' hnd
            refine g_v (v_assign rfl) rfl ?_
            refine g_nil ?_
            refine g_seq ?_
            refine g_reg ?_
            refine g_v (v_move rfl) rfl ?_
            refine g_v (v_move rfl) rfl ?_
            refine g_l (l_call (Pre := [vlt q2 (fillR S' L' n' x).1 (fillR S' L' n' x).2.1 (fillR S' L' n' x).2.2]) Try.call52 rfl (ct_T_blocks q2 (fillR S' L' n' x).1 (fillR S' L' n' x).2.1 (fillR S' L' n' x).2.2 id G1 hV1)) rfl ?_
            rintro v L' hv
            unfold RBlk at hv
            rw [hf1] at hv
            obtain ⟨s12, c12, rfl, rfl⟩ := hv
            rw [hb1, hb']
            refine g_freeze s12 ?_
            refine g_v (v_move rfl) rfl ?_
            refine g_v (v_extract rfl rfl) rfl ?_
            refine g_v (v_extract rfl rfl) rfl ?_
            refine g_v (v_assign rfl) rfl ?_
            refine g_v (v_assign rfl) rfl ?_
            refine g_nil ?_
            refine g_seq ?_
            refine g_reg ?_
            refine g_v (v_move rfl) rfl ?_
            refine g_v (v_not rfl) rfl ?_
            refine g_v (v_move rfl) rfl ?_
            refine g_gv1 rfl rfl (by simp) (v_move rfl) rfl ?_
            refine g_gv1 rfl rfl (by simp) (v_move rfl) rfl ?_
            refine g_gl rfl rfl (by simp) (l_call (Pre := [roL 1 s9 (strR (blk S p)), roL 1 s12 (strR (blk S p))]) Try.call54 rfl (ct_R_SameTexts (blk S p) (blk S p) s9 s12 c9 c12 (by simp [blk]; omega))) rfl ?_
            rintro _ _ ⟨rfl, rfl⟩
            refine g_gv1 rfl rfl (by simp) (v_not rfl) rfl ?_
            refine g_v (v_or rfl rfl) rfl ?_
            refine g_nil ?_
            refine g_cond rfl (fun h77 => ?_) (fun h77 => ?_)
            · simp at h77
            · skip
              refine g_skip ?_
              refine g_blk ?_
              refine g_reg ?_
              refine g_v (v_move rfl) rfl ?_
              refine g_v (v_add rfl rfl (w64 (by omega))) rfl ?_
              refine g_v (v_assign rfl) rfl ?_
              refine g_nil ?_
              exact g_again (i + 1, q2, (fillR S' L' n' x).1, (fillR S' L' n' x).2.1, (fillR S' L' n' x).2.2) ⟨by simp only []; omega, G1, hV1, hf1, hb1.trans hb'⟩ (by simp only []; omega) [1, 2, 8, 9, 11] rfl rfl
        · skip
          refine g_exit rfl ?_
          refine g_seq ?_
          refine g_reg ?_
          refine g_v (v_assign rfl) rfl ?_
          refine g_nil ?_
          refine g_ret1 rfl rfl ?_
          exact rfl

end Go.Proofs.Ythdjckbjjfiopab
