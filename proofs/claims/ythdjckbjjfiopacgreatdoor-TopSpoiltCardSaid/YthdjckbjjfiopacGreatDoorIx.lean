/- Walks through package index: single nodes. No condition. -/
import Derived.Test.YthdjckbjjfiopacGreatDoorIxM
import Derived.Test.YthdjckbjjfiopacGreatDoorSlC
namespace Go.Proofs.YthdjckbjjfiopacGreatDoor
open Go.Sl Go.Proofs
set_option linter.unusedVariables false
set_option linter.unusedSimpArgs false
theorem bldA4 (w : World) : (Instr.build 97 #[]).run Tryz.prog w = .ok (.agg (kdC nd0).toArray) w := by
  simp [Instr.build, Tryz.zeroValue97, Tryz.runUnderlying97, Instr.fill, cells_agg, nd0]
theorem ndC_ld {n : Nd} {r : Int} {T : TypeId} {f : Nat × Nat} : ∀ i v, (kdC n)[i]? = some v → objCell (.cells (ndC (rf n r)).toArray T f) (0 + 0 + i) = some v := fun i v h => by
  match i, h with
  | 0, h => simpa [objCell, rf] using h
  | 1, h => simpa [objCell, rf] using h
  | 2, h => simpa [objCell, rf] using h
  | 3, h => simpa [objCell, rf] using h
  | i + 4, h => simp at h
theorem freeN {m : Int} {S : SI} (h : okS m S) {f k : Nat} (hf : freeId 24 S.N = some f) (hk : 1 ≤ k ∧ k ≤ f) : 0 < (gN S.N k).refs ↔ k < f := by
  have h1 := free_some hf
  constructor
  · intro hr
    rcases Nat.lt_or_ge k f with h2 | h2
    · exact h2
    · obtain rfl : k = f := by omega
      unfold gN at hr
      rw [h1.2.1] at hr
      simp [nd0] at hr
  · intro hlt
    have h2 := h1.2.2 k hk.1 hlt
    cases e : S.N k with
    | none => rw [e] at h2; cases h2
    | some n => have := h.2.2.2 k n e; unfold gN; rw [e]; exact this.1
theorem ct_index_New  (F : List HProp) : Ct Tryz.prog 58 [] ([] ++ F) (fun v L' => ∃ b, v = ptr b 0 ∧ L' = ixl b ⟨fun _ => none, fun _ => none⟩ :: F) := by
  show Ct Tryz.prog 58 [] (F) _
  refine Ct.of Tryz.func58 rfl 5 Tryz.ntmps58 (by simp) fun w0 => ?_
  refine g_seq ?_
  refine g_reg ?_
  refine g_v (v_assign rfl) rfl ?_
  refine g_nil ?_
  refine g_seq ?_
  refine g_reg ?_
  refine g_l (l_call (Pre := []) Tryz.call87 rfl (ct_pool_New)) rfl ?_
  rintro _ _ ⟨p, rfl, rfl⟩
  refine g_l (l_makeMap) rfl ?_
  rintro _ _ ⟨b2, rfl, rfl⟩
  refine g_v (v_build rfl (bld43_0_1 _ rfl _ rfl)) rfl ?_
  refine g_l (l_box #[ptr p 0, .map (some b2)] rfl rfl) rfl ?_
  rintro _ _ ⟨b4, rfl, rfl⟩
  refine g_v (v_assign rfl) rfl ?_
  refine g_nil ?_
  refine g_shutX p b2 b4 ⟨fun _ => none, fun _ => none⟩ (by rw [tb_empty]) ?_
  exact fun a w hE hS => wp_ret (kq_ret (res_fpost (vs := [ptr b4 0]) rfl hE hS ⟨b4, rfl, rfl⟩))

theorem ct_index_Index_ref (b : Nat) (S : SI) (q m : Int) (hok : okS m S) (hm : 0 ≤ m ∧ m ≤ 1000000) (hq : 1 ≤ q ∧ q ≤ 24) (F : List HProp) : Ct Tryz.prog 79 [ptr b 0, I q] ([ixl b S] ++ F) (R1 (.tuple #[]) (ixl b ⟨S.B, bumpN S.N q⟩ :: F)) := by
  show Ct Tryz.prog 79 [ptr b 0, I q] (ixl b S :: F) _
  refine Ct.of Tryz.func79 rfl 21 Tryz.ntmps79 (by simp) fun w0 => ?_
  refine g_openX b (S) ?_
  intro p r
  refine g_seq ?_
  refine g_reg ?_
  refine g_v (v_move rfl) rfl ?_
  refine g_v (v_nilCheck rfl) rfl ?_
  refine g_v (v_fieldAddr 1 Tryz.underlying43 rfl rfl Tryz.sizeOf41 (by decide) rfl) rfl ?_
  refine g_v (v_load (v := .map (some r)) Tryz.isAgg41 rfl rfl) rfl ?_
  refine g_v (v_move rfl) rfl ?_
  refine g_v (v_lookup (v := encN (gN S.N (q))) Tryz.underlying41 Tryz.underlying3 Tryz.zeroValue99 rfl rfl (lkN hok.2.2.1 _)) rfl ?_
  refine g_l (l_alloc #[I 0, I 0, I 0, I 0, I 0] Tryz.zeroValue99) rfl ?_
  rintro _ _ ⟨b4, rfl, rfl⟩
  refine g_l0 (l_storeA (cs := #[I 0, I 0, I 0, I 0, I 0]) (vs := ndC (gN S.N q)) (ndC (gN S.N q)).toArray Tryz.sizeOf99 rfl rfl rfl rfl (by simp) (splice_whole rfl)) ?_
  rintro _ _ rfl
  refine g_nil ?_
  refine g_seq ?_
  refine g_reg ?_
  refine g_v (v_fieldAddr 4 Tryz.underlying99 rfl rfl Tryz.sizeOf3 (by decide) rfl) rfl ?_
  refine g_v (v_load (v := I (gN S.N q).refs) Tryz.isAgg3 rfl rfl) rfl ?_
  refine g_v (v_add rfl rfl (w64 (by have := gN_refs hok hm.1 q; omega))) rfl ?_
  refine g_v (v_fieldAddr 4 Tryz.underlying99 rfl rfl Tryz.sizeOf3 (by decide) rfl) rfl ?_
  refine g_l0 (l_store (ndC (rf (gN S.N q) ((gN S.N q).refs + 1))).toArray Tryz.sizeOf3 rfl rfl rfl (by simp) rfl) ?_
  rintro _ _ rfl
  refine g_nil ?_
  refine g_draw (Lf := [pt b (.cells #[ptr p 0, .map (some r)] 43 (0, 0)), pt b4 (.cells (ndC (rf (gN S.N q) ((gN S.N q).refs + 1))).toArray 99 (0, 0))]) [(0, false), (1, false), (2, false), (3, false), (4, false), (5, false), (6, true)] (by kernel_rfl) (by kernel_rfl) rfl (by kernel_rfl) ?_
  refine d_v rfl (v_move rfl) rfl ?_
  refine d_v rfl (v_nilCheck rfl) rfl ?_
  refine d_v rfl (v_fieldAddr 1 Tryz.underlying43 rfl rfl Tryz.sizeOf41 (by decide) rfl) rfl ?_
  refine d_v rfl (v_load (v := .map (some r)) Tryz.isAgg41 rfl rfl) rfl ?_
  refine d_v rfl (v_move rfl) rfl ?_
  refine d_v rfl (v_loadA (vs := ndC (rf (gN S.N q) ((gN S.N q).refs + 1))) Tryz.isAgg99 Tryz.sizeOf99 rfl rfl arr_ld) rfl ?_
  refine d_l0 rfl (l_mapUpdate Tryz.underlying41 Tryz.underlying3 rfl rfl rfl) ?_
  rintro _ _ rfl
  refine d_nil ?_
  refine g_shutX p r b (⟨S.B, bumpN S.N q⟩) (tb_set encN (x := rf (gN S.N q) ((gN S.N q).refs + 1)) hq) ?_
  exact g_end1 rfl rfl rfl

theorem ct_index_unrefL (b : Nat) (S : SI) (q m : Int) (hok : okS m S) (hm : 0 ≤ m ∧ m ≤ 1000000) (F : List HProp) : Ct Tryz.prog 84 [ptr b 0, I q, Bo true] ([ixl b S] ++ F) (R1 (.tuple #[]) (ixl b (unL S q) :: F)) := by
  show Ct Tryz.prog 84 [ptr b 0, I q, Bo true] (ixl b S :: F) _
  refine Ct.of Tryz.func84 rfl 55 Tryz.ntmps84 (by simp) fun w0 => ?_
  refine g_seq ?_
  refine g_seq ?_
  refine g_reg ?_
  refine g_v (v_move rfl) rfl ?_
  refine g_v (v_eql rfl rfl) rfl ?_
  refine g_nil ?_
  refine g_cond rfl (fun h10 => ?_) (fun h10 => ?_)
  · simp at h10
    rw [show ixl b S = ixl b (unL S q) by unfold unL unX; rw [if_pos h10]]
    exact g_ret1 rfl rfl rfl
  · simp at h10
    refine g_skip ?_
    refine g_seq ?_
    refine g_openX b (S) ?_
    intro p r
    refine g_reg ?_
    refine g_v (v_move rfl) rfl ?_
    refine g_v (v_nilCheck rfl) rfl ?_
    refine g_v (v_fieldAddr 1 Tryz.underlying43 rfl rfl Tryz.sizeOf41 (by decide) rfl) rfl ?_
    refine g_v (v_load (v := .map (some r)) Tryz.isAgg41 rfl rfl) rfl ?_
    refine g_v (v_move rfl) rfl ?_
    refine g_v (v_lookup (v := encN (gN S.N (q))) Tryz.underlying41 Tryz.underlying3 Tryz.zeroValue99 rfl rfl (lkN hok.2.2.1 _)) rfl ?_
    refine g_l (l_alloc #[I 0, I 0, I 0, I 0, I 0] Tryz.zeroValue99) rfl ?_
    rintro _ _ ⟨b6, rfl, rfl⟩
    refine g_l0 (l_storeA (cs := #[I 0, I 0, I 0, I 0, I 0]) (vs := ndC (gN S.N q)) (ndC (gN S.N q)).toArray Tryz.sizeOf99 rfl rfl rfl rfl (by simp) (splice_whole rfl)) ?_
    rintro _ _ rfl
    refine g_nil ?_
    refine g_seq ?_
    refine g_reg ?_
    refine g_v (v_fieldAddr 4 Tryz.underlying99 rfl rfl Tryz.sizeOf3 (by decide) rfl) rfl ?_
    refine g_v (v_load (v := I (gN S.N q).refs) Tryz.isAgg3 rfl rfl) rfl ?_
    refine g_v (v_sub rfl rfl (w64 (by have := gN_refs hok hm.1 q; omega))) rfl ?_
    refine g_v (v_fieldAddr 4 Tryz.underlying99 rfl rfl Tryz.sizeOf3 (by decide) rfl) rfl ?_
    refine g_l0 (l_store (ndC (rf (gN S.N q) ((gN S.N q).refs - 1))).toArray Tryz.sizeOf3 rfl rfl rfl (by simp) rfl) ?_
    rintro _ _ rfl
    refine g_nil ?_
    refine g_seq ?_
    refine g_draw (Lf := [pt b (.cells #[ptr p 0, .map (some r)] 43 (0, 0)), pt b6 (.cells (ndC (rf (gN S.N q) ((gN S.N q).refs - 1))).toArray 99 (0, 0))]) [(0, false), (1, false), (2, false), (3, false), (4, false), (5, false), (6, true)] (by kernel_rfl) (by kernel_rfl) rfl (by kernel_rfl) ?_
    refine d_v rfl (v_move rfl) rfl ?_
    refine d_v rfl (v_nilCheck rfl) rfl ?_
    refine d_v rfl (v_fieldAddr 1 Tryz.underlying43 rfl rfl Tryz.sizeOf41 (by decide) rfl) rfl ?_
    refine d_v rfl (v_load (v := .map (some r)) Tryz.isAgg41 rfl rfl) rfl ?_
    refine d_v rfl (v_move rfl) rfl ?_
    refine d_v rfl (v_loadA (vs := ndC (rf (gN S.N q) ((gN S.N q).refs - 1))) Tryz.isAgg99 Tryz.sizeOf99 rfl rfl arr_ld) rfl ?_
    refine d_l0 rfl (l_mapUpdate Tryz.underlying41 Tryz.underlying3 rfl rfl rfl) ?_
    rintro _ _ rfl
    refine d_nil ?_
    refine g_seq ?_
    refine g_seq ?_
    refine g_reg ?_
    refine g_v (v_fieldAddr 4 Tryz.underlying99 rfl rfl Tryz.sizeOf3 (by decide) rfl) rfl ?_
    refine g_v (v_load (v := I ((gN S.N q).refs - 1)) Tryz.isAgg3 rfl rfl) rfl ?_
    refine g_v (v_gtr rfl rfl) rfl ?_
    refine g_nil ?_
    refine g_cond rfl (fun h29 => ?_) (fun h29 => ?_)
    · simp at h29
      have hp : S.N q ≠ none := fun e => by unfold gN at h29; rw [e] at h29; simp [nd0] at h29
      obtain ⟨n, hn⟩ := Option.ne_none_iff_exists'.1 hp
      refine g_shutX p r b (⟨S.B, pset S.N q (some (rf (gN S.N q) ((gN S.N q).refs - 1)))⟩) (tb_set encN (x := rf (gN S.N q) ((gN S.N q).refs - 1)) (hok.2.2.1 q n hn)) ?_
      rw [show (⟨S.B, pset S.N q (some (rf (gN S.N q) ((gN S.N q).refs - 1)))⟩ : SI) = unL S q by unfold unL unX; rw [if_neg h10, if_pos (by omega)]]
      exact g_ret1 rfl rfl rfl
    · simp at h29
      refine g_skip ?_
      refine g_seq ?_
      refine g_reg ?_
      refine g_v (v_move rfl) rfl ?_
      refine g_v (v_nilCheck rfl) rfl ?_
      refine g_v (v_fieldAddr 1 Tryz.underlying43 rfl rfl Tryz.sizeOf41 (by decide) rfl) rfl ?_
      refine g_v (v_load (v := .map (some r)) Tryz.isAgg41 rfl rfl) rfl ?_
      refine g_v (v_move rfl) rfl ?_
      refine g_l0 (l_delete Tryz.underlying41 Tryz.underlying3 rfl rfl) ?_
      rintro _ _ ⟨rfl, rfl⟩
      refine g_nil ?_
      refine g_seq ?_
      refine g_shutX p r b (⟨S.B, pset S.N q none⟩) (tb_setdel encN (v := encN (rf (gN S.N q) ((gN S.N q).refs - 1)))) ?_
      show G _ _ _ (ixl b (part dropB ⟨S.B, pset S.N q none⟩ (gN S.N q)  0) :: _)
      refine g_reg ?_
      refine g_v (v_fieldAddr 0 Tryz.underlying99 rfl rfl Tryz.sizeOf97 (by decide) rfl) rfl ?_
      refine g_v (v_loadA (vs := kdC (gN S.N q)) Tryz.isAgg97 Tryz.sizeOf97 rfl rfl ndC_ld) rfl ?_
      refine g_v (v_move rfl) rfl ?_
      refine g_nil ?_
      refine g_block ?_
      refine g_loop (α := Nat) (fun i => i ≤ 4) (fun i => U [(0, ptr b 0), (2, Bo true), (36, .agg (kdC (gN S.N q)).toArray), (37, I i)]) (fun i => ixl b (part dropB ⟨S.B, pset S.N q none⟩ (gN S.N q)  i) :: F) (fun i => 4 - i) 0 (by omega) [0, 2, 36, 37] rfl rfl ?_
      intro i hi
      have hpi := part_ok (f := dropB) (fun S k h => okS_dropB h k) (okS_setN hok (q := q) (x := none) (fun e => by cases e) (fun n e => by cases e)) (gN S.N q) i
      refine g_seq ?_
      refine g_reg ?_
      refine g_v (v_lss rfl rfl) rfl ?_
      refine g_nil ?_
      refine g_seq ?_
      refine g_cond rfl (fun h38 => ?_) (fun h38 => ?_)
      · simp at h38
        have hi4 : i < 4 := by omega
        refine g_skip ?_
        refine g_seq ?_
        refine g_block ?_
        refine g_seq ?_
        refine g_reg ?_
        refine g_v (v_index (v := I (kat (gN S.N q) i)) i Tryz.underlying97 Tryz.sizeOf3 Tryz.isAgg3 rfl rfl rfl hi4 (by simpa using kdC_at (gN S.N q) i hi4)) rfl ?_
        refine g_v (v_assign rfl) rfl ?_
        refine g_nil ?_
        refine g_block ?_
        refine g_seq ?_
        refine g_reg ?_
        refine g_v (v_move rfl) rfl ?_
        refine g_v (v_eql rfl rfl) rfl ?_
        refine g_v (v_assign rfl) rfl ?_
        refine g_nil ?_
        refine g_cond rfl (fun h43 => ?_) (fun h43 => ?_)
        · simp at h43
          refine g_skip ?_
          refine g_blk ?_
          refine g_blk ?_
          refine g_reg ?_
          refine g_v (v_add rfl rfl (w64 (by omega))) rfl ?_
          refine g_v (v_move rfl) rfl ?_
          refine g_nil ?_
          rw [show part dropB ⟨S.B, pset S.N q none⟩ (gN S.N q)  i = part dropB ⟨S.B, pset S.N q none⟩ (gN S.N q)  (i + 1) by rw [part_s _ _ _ i hi4]; unfold dropB; rw [if_pos h43]]
          exact g_again (i + 1) (by omega) (by omega) [0, 2, 36, 37] rfl rfl
        · simp at h43
          refine g_seq ?_
          refine g_reg ?_
          refine g_v (v_move rfl) rfl ?_
          refine g_v (v_assign rfl) rfl ?_
          refine g_nil ?_
          refine g_cond rfl (fun h46 => ?_) (fun h46 => ?_)
          · skip
            refine g_openX b (part dropB ⟨S.B, pset S.N q none⟩ (gN S.N q)  i) ?_
            intro p2 r2
            refine g_reg ?_
            refine g_v (v_move rfl) rfl ?_
            refine g_v (v_nilCheck rfl) rfl ?_
            refine g_v (v_fieldAddr 0 Tryz.underlying43 rfl rfl Tryz.sizeOf40 (by decide) rfl) rfl ?_
            refine g_v (v_load (v := ptr p2 0) Tryz.isAgg40 rfl rfl) rfl ?_
            refine g_v (v_move rfl) rfl ?_
            refine g_l (l_call (Pre := [plb p2 (part dropB ⟨S.B, pset S.N q none⟩ (gN S.N q)  i).B]) Tryz.call110 rfl (ct_pool_Pool_Unref p2 (part dropB ⟨S.B, pset S.N q none⟩ (gN S.N q)  i).B (kat (gN S.N q) i) (okS_okB hpi (by omega)))) rfl ?_
            rintro _ _ ⟨rfl, rfl⟩
            refine g_nil ?_
            refine g_blk ?_
            refine g_blk ?_
            refine g_reg ?_
            refine g_v (v_add rfl rfl (w64 (by omega))) rfl ?_
            refine g_v (v_move rfl) rfl ?_
            refine g_nil ?_
            refine g_shutX p2 r2 b (⟨refB (part dropB ⟨S.B, pset S.N q none⟩ (gN S.N q)  i).B (kat (gN S.N q) i) (-1), (part dropB ⟨S.B, pset S.N q none⟩ (gN S.N q)  i).N⟩) (.refl _) ?_
            rw [show (⟨refB (part dropB ⟨S.B, pset S.N q none⟩ (gN S.N q)  i).B (kat (gN S.N q) i) (-1), (part dropB ⟨S.B, pset S.N q none⟩ (gN S.N q)  i).N⟩ : SI) = part dropB ⟨S.B, pset S.N q none⟩ (gN S.N q)  (i + 1) by rw [part_s _ _ _ i hi4]; unfold dropB; rw [if_neg h43]]
            exact g_again (i + 1) (by omega) (by omega) [0, 2, 36, 37] rfl rfl
          · simp at h46
      · simp at h38
        obtain rfl : i = 4 := by omega
        refine g_exit rfl ?_
        rw [show part dropB ⟨S.B, pset S.N q none⟩ (gN S.N q)  4 = unL S q by unfold unL unX; rw [if_neg h10, if_neg (by omega)]; rfl]
        exact g_end1 rfl rfl rfl

theorem ct_index_unrefR (b : Nat) (S : SI) (q m : Int) (hok : okS m S) (hm : 0 ≤ m ∧ m ≤ 1000000) (F : List HProp) : Ct Tryz.prog 84 [ptr b 0, I q, Bo false] ([ixl b S] ++ F) (R1 (.tuple #[]) (ixl b (unR S q) :: F)) := by
  show Ct Tryz.prog 84 [ptr b 0, I q, Bo false] (ixl b S :: F) _
  refine Ct.of Tryz.func84 rfl 55 Tryz.ntmps84 (by simp) fun w0 => ?_
  refine g_seq ?_
  refine g_seq ?_
  refine g_reg ?_
  refine g_v (v_move rfl) rfl ?_
  refine g_v (v_eql rfl rfl) rfl ?_
  refine g_nil ?_
  refine g_cond rfl (fun h10 => ?_) (fun h10 => ?_)
  · simp at h10
    rw [show ixl b S = ixl b (unR S q) by unfold unR unX; rw [if_pos h10]]
    exact g_ret1 rfl rfl rfl
  · simp at h10
    refine g_skip ?_
    refine g_seq ?_
    refine g_openX b (S) ?_
    intro p r
    refine g_reg ?_
    refine g_v (v_move rfl) rfl ?_
    refine g_v (v_nilCheck rfl) rfl ?_
    refine g_v (v_fieldAddr 1 Tryz.underlying43 rfl rfl Tryz.sizeOf41 (by decide) rfl) rfl ?_
    refine g_v (v_load (v := .map (some r)) Tryz.isAgg41 rfl rfl) rfl ?_
    refine g_v (v_move rfl) rfl ?_
    refine g_v (v_lookup (v := encN (gN S.N (q))) Tryz.underlying41 Tryz.underlying3 Tryz.zeroValue99 rfl rfl (lkN hok.2.2.1 _)) rfl ?_
    refine g_l (l_alloc #[I 0, I 0, I 0, I 0, I 0] Tryz.zeroValue99) rfl ?_
    rintro _ _ ⟨b6, rfl, rfl⟩
    refine g_l0 (l_storeA (cs := #[I 0, I 0, I 0, I 0, I 0]) (vs := ndC (gN S.N q)) (ndC (gN S.N q)).toArray Tryz.sizeOf99 rfl rfl rfl rfl (by simp) (splice_whole rfl)) ?_
    rintro _ _ rfl
    refine g_nil ?_
    refine g_seq ?_
    refine g_reg ?_
    refine g_v (v_fieldAddr 4 Tryz.underlying99 rfl rfl Tryz.sizeOf3 (by decide) rfl) rfl ?_
    refine g_v (v_load (v := I (gN S.N q).refs) Tryz.isAgg3 rfl rfl) rfl ?_
    refine g_v (v_sub rfl rfl (w64 (by have := gN_refs hok hm.1 q; omega))) rfl ?_
    refine g_v (v_fieldAddr 4 Tryz.underlying99 rfl rfl Tryz.sizeOf3 (by decide) rfl) rfl ?_
    refine g_l0 (l_store (ndC (rf (gN S.N q) ((gN S.N q).refs - 1))).toArray Tryz.sizeOf3 rfl rfl rfl (by simp) rfl) ?_
    rintro _ _ rfl
    refine g_nil ?_
    refine g_seq ?_
    refine g_draw (Lf := [pt b (.cells #[ptr p 0, .map (some r)] 43 (0, 0)), pt b6 (.cells (ndC (rf (gN S.N q) ((gN S.N q).refs - 1))).toArray 99 (0, 0))]) [(0, false), (1, false), (2, false), (3, false), (4, false), (5, false), (6, true)] (by kernel_rfl) (by kernel_rfl) rfl (by kernel_rfl) ?_
    refine d_v rfl (v_move rfl) rfl ?_
    refine d_v rfl (v_nilCheck rfl) rfl ?_
    refine d_v rfl (v_fieldAddr 1 Tryz.underlying43 rfl rfl Tryz.sizeOf41 (by decide) rfl) rfl ?_
    refine d_v rfl (v_load (v := .map (some r)) Tryz.isAgg41 rfl rfl) rfl ?_
    refine d_v rfl (v_move rfl) rfl ?_
    refine d_v rfl (v_loadA (vs := ndC (rf (gN S.N q) ((gN S.N q).refs - 1))) Tryz.isAgg99 Tryz.sizeOf99 rfl rfl arr_ld) rfl ?_
    refine d_l0 rfl (l_mapUpdate Tryz.underlying41 Tryz.underlying3 rfl rfl rfl) ?_
    rintro _ _ rfl
    refine d_nil ?_
    refine g_seq ?_
    refine g_seq ?_
    refine g_reg ?_
    refine g_v (v_fieldAddr 4 Tryz.underlying99 rfl rfl Tryz.sizeOf3 (by decide) rfl) rfl ?_
    refine g_v (v_load (v := I ((gN S.N q).refs - 1)) Tryz.isAgg3 rfl rfl) rfl ?_
    refine g_v (v_gtr rfl rfl) rfl ?_
    refine g_nil ?_
    refine g_cond rfl (fun h29 => ?_) (fun h29 => ?_)
    · simp at h29
      have hp : S.N q ≠ none := fun e => by unfold gN at h29; rw [e] at h29; simp [nd0] at h29
      obtain ⟨n, hn⟩ := Option.ne_none_iff_exists'.1 hp
      refine g_shutX p r b (⟨S.B, pset S.N q (some (rf (gN S.N q) ((gN S.N q).refs - 1)))⟩) (tb_set encN (x := rf (gN S.N q) ((gN S.N q).refs - 1)) (hok.2.2.1 q n hn)) ?_
      rw [show (⟨S.B, pset S.N q (some (rf (gN S.N q) ((gN S.N q).refs - 1)))⟩ : SI) = unR S q by unfold unR unX; rw [if_neg h10, if_pos (by omega)]]
      exact g_ret1 rfl rfl rfl
    · simp at h29
      refine g_skip ?_
      refine g_seq ?_
      refine g_reg ?_
      refine g_v (v_move rfl) rfl ?_
      refine g_v (v_nilCheck rfl) rfl ?_
      refine g_v (v_fieldAddr 1 Tryz.underlying43 rfl rfl Tryz.sizeOf41 (by decide) rfl) rfl ?_
      refine g_v (v_load (v := .map (some r)) Tryz.isAgg41 rfl rfl) rfl ?_
      refine g_v (v_move rfl) rfl ?_
      refine g_l0 (l_delete Tryz.underlying41 Tryz.underlying3 rfl rfl) ?_
      rintro _ _ ⟨rfl, rfl⟩
      refine g_nil ?_
      refine g_seq ?_
      refine g_shutX p r b (⟨S.B, pset S.N q none⟩) (tb_setdel encN (v := encN (rf (gN S.N q) ((gN S.N q).refs - 1)))) ?_
      show G _ _ _ (ixl b (part unL ⟨S.B, pset S.N q none⟩ (gN S.N q)  0) :: _)
      refine g_reg ?_
      refine g_v (v_fieldAddr 0 Tryz.underlying99 rfl rfl Tryz.sizeOf97 (by decide) rfl) rfl ?_
      refine g_v (v_loadA (vs := kdC (gN S.N q)) Tryz.isAgg97 Tryz.sizeOf97 rfl rfl ndC_ld) rfl ?_
      refine g_v (v_move rfl) rfl ?_
      refine g_nil ?_
      refine g_block ?_
      refine g_loop (α := Nat) (fun i => i ≤ 4) (fun i => U [(0, ptr b 0), (2, Bo false), (36, .agg (kdC (gN S.N q)).toArray), (37, I i)]) (fun i => ixl b (part unL ⟨S.B, pset S.N q none⟩ (gN S.N q)  i) :: F) (fun i => 4 - i) 0 (by omega) [0, 2, 36, 37] rfl rfl ?_
      intro i hi
      have hpi := part_ok (f := unL) (fun S k h => okS_unL h k) (okS_setN hok (q := q) (x := none) (fun e => by cases e) (fun n e => by cases e)) (gN S.N q) i
      refine g_seq ?_
      refine g_reg ?_
      refine g_v (v_lss rfl rfl) rfl ?_
      refine g_nil ?_
      refine g_seq ?_
      refine g_cond rfl (fun h38 => ?_) (fun h38 => ?_)
      · simp at h38
        have hi4 : i < 4 := by omega
        refine g_skip ?_
        refine g_seq ?_
        refine g_block ?_
        refine g_seq ?_
        refine g_reg ?_
        refine g_v (v_index (v := I (kat (gN S.N q) i)) i Tryz.underlying97 Tryz.sizeOf3 Tryz.isAgg3 rfl rfl rfl hi4 (by simpa using kdC_at (gN S.N q) i hi4)) rfl ?_
        refine g_v (v_assign rfl) rfl ?_
        refine g_nil ?_
        refine g_block ?_
        refine g_seq ?_
        refine g_reg ?_
        refine g_v (v_move rfl) rfl ?_
        refine g_v (v_eql rfl rfl) rfl ?_
        refine g_v (v_assign rfl) rfl ?_
        refine g_nil ?_
        refine g_cond rfl (fun h43 => ?_) (fun h43 => ?_)
        · simp at h43
          refine g_skip ?_
          refine g_blk ?_
          refine g_blk ?_
          refine g_reg ?_
          refine g_v (v_add rfl rfl (w64 (by omega))) rfl ?_
          refine g_v (v_move rfl) rfl ?_
          refine g_nil ?_
          rw [show part unL ⟨S.B, pset S.N q none⟩ (gN S.N q)  i = part unL ⟨S.B, pset S.N q none⟩ (gN S.N q)  (i + 1) by rw [part_s _ _ _ i hi4]; unfold unL unX; rw [if_pos h43]]
          exact g_again (i + 1) (by omega) (by omega) [0, 2, 36, 37] rfl rfl
        · simp at h43
          refine g_seq ?_
          refine g_reg ?_
          refine g_v (v_move rfl) rfl ?_
          refine g_v (v_assign rfl) rfl ?_
          refine g_nil ?_
          refine g_cond rfl (fun h46 => ?_) (fun h46 => ?_)
          · simp at h46
          · skip
            refine g_reg ?_
            refine g_v (v_move rfl) rfl ?_
            refine g_v (v_move rfl) rfl ?_
            refine g_l (l_call (Pre := [ixl b (part unL ⟨S.B, pset S.N q none⟩ (gN S.N q)  i)]) Tryz.call84 rfl (ct_index_unrefL b (part unL ⟨S.B, pset S.N q none⟩ (gN S.N q)  i) (kat (gN S.N q) i) m hpi hm)) rfl ?_
            rintro _ _ ⟨rfl, rfl⟩
            refine g_nil ?_
            refine g_blk ?_
            refine g_blk ?_
            refine g_reg ?_
            refine g_v (v_add rfl rfl (w64 (by omega))) rfl ?_
            refine g_v (v_move rfl) rfl ?_
            refine g_nil ?_
            rw [show unL (part unL ⟨S.B, pset S.N q none⟩ (gN S.N q)  i) (kat (gN S.N q) i) = part unL ⟨S.B, pset S.N q none⟩ (gN S.N q)  (i + 1) from (part_s _ _ _ i hi4).symm]
            exact g_again (i + 1) (by omega) (by omega) [0, 2, 36, 37] rfl rfl
      · simp at h38
        obtain rfl : i = 4 := by omega
        refine g_exit rfl ?_
        rw [show part unL ⟨S.B, pset S.N q none⟩ (gN S.N q)  4 = unR S q by unfold unR unX; rw [if_neg h10, if_neg (by omega)]; rfl]
        exact g_end1 rfl rfl rfl

theorem ct_index_Index_node (b : Nat) (S : SI) (n : Nd) (lf : Bool) (m : Int) (hok : okS m S) (hm : 1 ≤ m ∧ m ≤ 900000) (hk : lf = false → ∀ i, i < 4 → 0 ≤ kat n i ∧ kat n i ≤ 24) (F : List HProp) : Ct Tryz.prog 109 [ptr b 0, .agg (kdC n).toArray, Bo lf] ([ixl b S] ++ F) (R1 (.tuple #[I (nodeE S n).1, errT 89 (nodeE S n).2]) (ixl b (nodeS lf S n) :: F)) := by
  show Ct Tryz.prog 109 [ptr b 0, .agg (kdC n).toArray, Bo lf] (ixl b S :: F) _
  refine Ct.of Tryz.func109 rfl 58 Tryz.ntmps109 (by simp) fun w0 => ?_
  refine g_seq ?_
  refine g_reg ?_
  refine g_l (l_box (kdC n).toArray rfl rfl) rfl ?_
  rintro _ _ ⟨b4, rfl, rfl⟩
  refine g_v (v_assign rfl) rfl ?_
  refine g_v (v_assign rfl) rfl ?_
  refine g_nil ?_
  refine g_seq ?_
  refine g_seq ?_
  refine g_reg ?_
  refine g_v (v_loadA (vs := kdC (n)) Tryz.isAgg97 Tryz.sizeOf97 rfl rfl arr_ld) rfl ?_
  refine g_v (v_build rfl bldA4) rfl ?_
  refine g_v (v_aeql Tryz.eqGuardType97 rfl rfl (eq_A4 n nd0)) rfl ?_
  refine g_nil ?_
  refine g_cond rfl (fun h13 => ?_) (fun h13 => ?_)
  · have hno : noKids n := of_decide_eq_true h13
    refine g_seq ?_
    refine g_reg ?_
    refine g_v (v_assign rfl) rfl ?_
    refine g_v (v_assign rfl) rfl ?_
    refine g_nil ?_
    rw [show nodeE S n = (0, 0) by unfold nodeE; rw [if_pos hno], show nodeS lf S n = S by unfold nodeS; rw [if_pos hno]]
    exact g_ret1 rfl rfl rfl
  · have hno : ¬ noKids n := of_decide_eq_false h13
    refine g_skip ?_
    refine g_seq ?_
    refine g_seq ?_
    refine g_openX b (S) ?_
    intro p r
    refine g_reg ?_
    refine g_v (v_move rfl) rfl ?_
    refine g_v (v_nilCheck rfl) rfl ?_
    refine g_v (v_fieldAddr 1 Tryz.underlying43 rfl rfl Tryz.sizeOf41 (by decide) rfl) rfl ?_
    refine g_v (v_load (v := .map (some r)) Tryz.isAgg41 rfl rfl) rfl ?_
    refine g_v (v_lenM Tryz.underlying41 rfl) rfl ?_
    refine g_v (v_eql rfl rfl) rfl ?_
    refine g_nil ?_
    refine g_cond rfl (fun h19 => ?_) (fun h19 => ?_)
    · simp at h19
      rw [tb_len] at h19
      have hfr := full_iff.1 (show (ids 24 S.N).length = 24 by omega)
      refine g_seq ?_
      refine g_reg ?_
      refine g_v (v_iface Tryz.underlying89 rfl rfl) rfl ?_
      refine g_v (v_assign rfl) rfl ?_
      refine g_v (v_assign rfl) rfl ?_
      refine g_nil ?_
      rw [show nodeE S n = (0, 8) by unfold nodeE; rw [if_neg hno, hfr], show nodeS lf S n = S by unfold nodeS; rw [if_neg hno, hfr]]
      refine g_shutX p r b (S) (.refl _) ?_
      exact g_ret1 rfl rfl rfl
    · simp at h19
      rw [tb_len] at h19
      obtain ⟨j, hfr⟩ := free_isSome (n := 24) (B := S.N) (by omega)
      have hjf := free_some hfr
      refine g_skip ?_
      refine g_seq ?_
      refine g_reg ?_
      refine g_v (v_assign rfl) rfl ?_
      refine g_nil ?_
      refine g_seq ?_
      refine g_block ?_
      refine g_loop (α := Nat) (fun k => 1 ≤ k ∧ k ≤ j) (fun k => U [(0, ptr b 0), (2, Bo lf), (4, ptr b4 0), (8, I k)]) (fun _ => pt b (.cells #[ptr p 0, .map (some r)] 43 (0, 0)) :: plb p S.B :: mp r (tb encN 24 S.N) :: pt b4 (.cells (kdC n).toArray 97 (0, 0)) :: F) (fun k => j - k) 1 ⟨by omega, by omega⟩ [0, 2, 4, 8] rfl rfl ?_
      intro k h0
      have hnk := freeN hok hfr h0
      refine g_seq ?_
      refine g_seq ?_
      refine g_reg ?_
      refine g_v (v_move rfl) rfl ?_
      refine g_v (v_nilCheck rfl) rfl ?_
      refine g_v (v_fieldAddr 1 Tryz.underlying43 rfl rfl Tryz.sizeOf41 (by decide) rfl) rfl ?_
      refine g_v (v_load (v := .map (some r)) Tryz.isAgg41 rfl rfl) rfl ?_
      refine g_v (v_move rfl) rfl ?_
      refine g_v (v_lookup (v := encN (gN S.N (k))) Tryz.underlying41 Tryz.underlying3 Tryz.zeroValue99 rfl rfl (lkN hok.2.2.1 _)) rfl ?_
      refine g_v (v_field (v := I (gN S.N k).refs) Tryz.underlying99 rfl Tryz.isAgg3 rfl rfl) rfl ?_
      refine g_v (v_gtr rfl rfl) rfl ?_
      refine g_nil ?_
      refine g_cond rfl (fun h28 => ?_) (fun h28 => ?_)
      · simp at h28
        refine g_skip ?_
        refine g_block ?_
        refine g_reg ?_
        refine g_v (v_move rfl) rfl ?_
        refine g_v (v_add rfl rfl (w64 (by omega))) rfl ?_
        refine g_v (v_assign rfl) rfl ?_
        refine g_nil ?_
        refine g_blk ?_
        exact g_again (k + 1) ⟨by omega, by omega⟩ (by omega) [0, 2, 4, 8] rfl rfl
      · simp at h28
        obtain rfl : k = j := by omega
        refine g_exit rfl ?_
        refine g_seq ?_
        refine g_draw (Lf := [pt b (.cells #[ptr p 0, .map (some r)] 43 (0, 0)), pt b4 (.cells (kdC n).toArray 97 (0, 0))]) [(0, false), (1, false), (2, false), (3, false), (4, false), (5, false), (6, false), (7, true)] (by kernel_rfl) (by kernel_rfl) rfl (by kernel_rfl) ?_
        refine d_v rfl (v_move rfl) rfl ?_
        refine d_v rfl (v_nilCheck rfl) rfl ?_
        refine d_v rfl (v_fieldAddr 1 Tryz.underlying43 rfl rfl Tryz.sizeOf41 (by decide) rfl) rfl ?_
        refine d_v rfl (v_load (v := .map (some r)) Tryz.isAgg41 rfl rfl) rfl ?_
        refine d_v rfl (v_move rfl) rfl ?_
        refine d_v rfl (v_loadA (vs := kdC (n)) Tryz.isAgg97 Tryz.sizeOf97 rfl rfl arr_ld) rfl ?_
        refine d_v rfl (v_build rfl (bldNode n)) rfl ?_
        refine d_l0 rfl (l_mapUpdate Tryz.underlying41 Tryz.underlying3 rfl rfl rfl) ?_
        rintro _ _ rfl
        refine d_nil ?_
        refine g_shutX p r b (⟨S.B, pset S.N k (some (rf n 1))⟩) (tb_set encN (x := rf n 1) (by omega)) ?_
        show G _ _ _ (ixl b (part (bump lf) ⟨S.B, pset S.N k (some (rf n 1))⟩ n 0) :: _)
        refine g_seq ?_
        refine g_seq ?_
        refine g_reg ?_
        refine g_v (v_loadA (vs := kdC (n)) Tryz.isAgg97 Tryz.sizeOf97 rfl rfl arr_ld) rfl ?_
        refine g_v (v_move rfl) rfl ?_
        refine g_nil ?_
        refine g_block ?_
        refine g_loop (α := Nat) (fun i => i ≤ 4) (fun i => U [(0, ptr b 0), (2, Bo lf), (8, I k), (38, .agg (kdC n).toArray), (39, I i)]) (fun i => ixl b (part (bump lf) ⟨S.B, pset S.N k (some (rf n 1))⟩ n i) :: F) (fun i => 4 - i) 0 (by omega) [0, 2, 8, 38, 39] rfl rfl ?_
        intro i hi
        have hpi := part_bump (okS_newN (k := k) hok hm.1 (by omega) n) (by omega) hk i hi
        refine g_seq ?_
        refine g_reg ?_
        refine g_v (v_lss rfl rfl) rfl ?_
        refine g_nil ?_
        refine g_seq ?_
        refine g_cond rfl (fun h40 => ?_) (fun h40 => ?_)
        · simp at h40
          have hi4 : i < 4 := by omega
          refine g_skip ?_
          refine g_seq ?_
          refine g_block ?_
          refine g_seq ?_
          refine g_reg ?_
          refine g_v (v_index (v := I (kat (n) i)) i Tryz.underlying97 Tryz.sizeOf3 Tryz.isAgg3 rfl rfl rfl hi4 (by simpa using kdC_at (n) i hi4)) rfl ?_
          refine g_v (v_assign rfl) rfl ?_
          refine g_nil ?_
          refine g_block ?_
          refine g_seq ?_
          refine g_reg ?_
          refine g_v (v_move rfl) rfl ?_
          refine g_v (v_eql rfl rfl) rfl ?_
          refine g_v (v_assign rfl) rfl ?_
          refine g_nil ?_
          refine g_cond rfl (fun h45 => ?_) (fun h45 => ?_)
          · simp at h45
            refine g_skip ?_
            refine g_blk ?_
            refine g_blk ?_
            refine g_reg ?_
            refine g_v (v_add rfl rfl (w64 (by omega))) rfl ?_
            refine g_v (v_move rfl) rfl ?_
            refine g_nil ?_
            rw [show part (bump lf) ⟨S.B, pset S.N k (some (rf n 1))⟩ n i = part (bump lf) ⟨S.B, pset S.N k (some (rf n 1))⟩ n (i + 1) by rw [part_s _ _ _ i hi4]; unfold bump; rw [if_pos h45]]
            exact g_again (i + 1) (by omega) (by omega) [0, 2, 8, 38, 39] rfl rfl
          · simp at h45
            refine g_seq ?_
            refine g_reg ?_
            refine g_v (v_move rfl) rfl ?_
            refine g_v (v_assign rfl) rfl ?_
            refine g_nil ?_
            refine g_cond rfl (fun h48 => ?_) (fun h48 => ?_)
            · skip
              refine g_openX b (part (bump lf) ⟨S.B, pset S.N k (some (rf n 1))⟩ n i) ?_
              intro p2 r2
              refine g_reg ?_
              refine g_v (v_move rfl) rfl ?_
              refine g_v (v_nilCheck rfl) rfl ?_
              refine g_v (v_fieldAddr 0 Tryz.underlying43 rfl rfl Tryz.sizeOf40 (by decide) rfl) rfl ?_
              refine g_v (v_load (v := ptr p2 0) Tryz.isAgg40 rfl rfl) rfl ?_
              refine g_v (v_move rfl) rfl ?_
              refine g_l (l_call (Pre := [plb p2 (part (bump lf) ⟨S.B, pset S.N k (some (rf n 1))⟩ n i).B]) Tryz.call164 rfl (ct_pool_Pool_Ref p2 (part (bump lf) ⟨S.B, pset S.N k (some (rf n 1))⟩ n i).B (kat n i) (okS_okB hpi (by omega)))) rfl ?_
              rintro _ _ ⟨rfl, rfl⟩
              refine g_nil ?_
              refine g_blk ?_
              refine g_blk ?_
              refine g_reg ?_
              refine g_v (v_add rfl rfl (w64 (by omega))) rfl ?_
              refine g_v (v_move rfl) rfl ?_
              refine g_nil ?_
              refine g_shutX p2 r2 b (⟨refB (part (bump lf) ⟨S.B, pset S.N k (some (rf n 1))⟩ n i).B (kat n i) 1, (part (bump lf) ⟨S.B, pset S.N k (some (rf n 1))⟩ n i).N⟩) (.refl _) ?_
              rw [show (⟨refB (part (bump lf) ⟨S.B, pset S.N k (some (rf n 1))⟩ n i).B (kat n i) 1, (part (bump lf) ⟨S.B, pset S.N k (some (rf n 1))⟩ n i).N⟩ : SI) = part (bump lf) ⟨S.B, pset S.N k (some (rf n 1))⟩ n (i + 1) by rw [part_s _ _ _ i hi4]; unfold bump; rw [if_neg h45, if_pos h48]]
              exact g_again (i + 1) (by omega) (by omega) [0, 2, 8, 38, 39] rfl rfl
            · skip
              refine g_reg ?_
              refine g_v (v_move rfl) rfl ?_
              refine g_v (v_move rfl) rfl ?_
              refine g_l (l_call (Pre := [ixl b (part (bump lf) ⟨S.B, pset S.N k (some (rf n 1))⟩ n i)]) Tryz.call79 rfl (ct_index_Index_ref b (part (bump lf) ⟨S.B, pset S.N k (some (rf n 1))⟩ n i) (kat n i) (m + i) hpi (by omega) (by have := hk (by simpa using h48) i hi4; omega))) rfl ?_
              rintro _ _ ⟨rfl, rfl⟩
              refine g_nil ?_
              refine g_blk ?_
              refine g_blk ?_
              refine g_reg ?_
              refine g_v (v_add rfl rfl (w64 (by omega))) rfl ?_
              refine g_v (v_move rfl) rfl ?_
              refine g_nil ?_
              rw [show (⟨(part (bump lf) ⟨S.B, pset S.N k (some (rf n 1))⟩ n i).B, bumpN (part (bump lf) ⟨S.B, pset S.N k (some (rf n 1))⟩ n i).N (kat n i)⟩ : SI) = part (bump lf) ⟨S.B, pset S.N k (some (rf n 1))⟩ n (i + 1) by rw [part_s _ _ _ i hi4]; unfold bump; rw [if_neg h45, if_neg (by simpa using h48)]]
              exact g_again (i + 1) (by omega) (by omega) [0, 2, 8, 38, 39] rfl rfl
        · simp at h40
          obtain rfl : i = 4 := by omega
          refine g_exit rfl ?_
          refine g_seq ?_
          refine g_reg ?_
          refine g_v (v_move rfl) rfl ?_
          refine g_v (v_assign rfl) rfl ?_
          refine g_v (v_assign rfl) rfl ?_
          refine g_nil ?_
          rw [show nodeE S n = ((k : Int), 0) by unfold nodeE; rw [if_neg hno, hfr], show nodeS lf S n = part (bump lf) ⟨S.B, pset S.N k (some (rf n 1))⟩ n 4 by unfold nodeS; rw [if_neg hno, hfr]; rfl]
          exact g_ret1 rfl rfl rfl

theorem ct_index_Index_block (b : Nat) (S : SI) (d : Bytes) (m : Int) (hok : okS m S) (hm : m ≤ 1000000) (hd : d.length ≤ 9223372036854775807) (F : List HProp) : Ct Tryz.prog 108 [ptr b 0, Str d] ([ixl b S] ++ F) (R1 (.tuple #[I (blockE S d).1, errT 89 (blockE S d).2]) (ixl b (blockS S d) :: F)) := by
  show Ct Tryz.prog 108 [ptr b 0, Str d] (ixl b S :: F) _
  refine Ct.of Tryz.func108 rfl 16 Tryz.ntmps108 (by simp) fun w0 => ?_
  refine g_seq ?_
  refine g_reg ?_
  refine g_v (v_assign rfl) rfl ?_
  refine g_v (v_assign rfl) rfl ?_
  refine g_nil ?_
  refine g_seq ?_
  refine g_seq ?_
  refine g_reg ?_
  refine g_v (v_move rfl) rfl ?_
  refine g_v (v_seql rfl rfl) rfl ?_
  refine g_nil ?_
  refine g_cond rfl (fun h7 => ?_) (fun h7 => ?_)
  · simp at h7
    refine g_seq ?_
    refine g_reg ?_
    refine g_v (v_assign rfl) rfl ?_
    refine g_v (v_assign rfl) rfl ?_
    refine g_nil ?_
    rw [show blockE S d = (0, 0) by unfold blockE; rw [if_pos h7], show blockS S d = S by unfold blockS; rw [if_pos h7]]
    exact g_ret1 rfl rfl rfl
  · simp at h7
    refine g_skip ?_
    refine g_seq ?_
    refine g_openX b (S) ?_
    intro p r
    refine g_reg ?_
    refine g_v (v_move rfl) rfl ?_
    refine g_v (v_nilCheck rfl) rfl ?_
    refine g_v (v_fieldAddr 0 Tryz.underlying43 rfl rfl Tryz.sizeOf40 (by decide) rfl) rfl ?_
    refine g_v (v_load (v := ptr p 0) Tryz.isAgg40 rfl rfl) rfl ?_
    refine g_v (v_move rfl) rfl ?_
    refine g_l (l_call (Pre := [plb p S.B]) Tryz.call163 rfl (ct_pool_Pool_Put p S.B d (okS_okB hok hm) hd)) rfl ?_
    rintro _ _ ⟨rfl, rfl⟩
    refine g_v (v_extract (v := I (putE S.B d).1) rfl rfl) rfl ?_
    refine g_v (v_extract (v := errT 89 (putE S.B d).2) rfl rfl) rfl ?_
    refine g_v (v_assign rfl) rfl ?_
    refine g_v (v_assign rfl) rfl ?_
    refine g_nil ?_
    rw [show blockE S d = putE S.B d by unfold blockE; rw [if_neg h7], show blockS S d = ⟨putB S.B d, S.N⟩ by unfold blockS; rw [if_neg h7]]
    refine g_shutX p r b (⟨putB S.B d, S.N⟩) (.refl _) ?_
    exact g_ret1 rfl rfl rfl

theorem ct_index_Index_Share (b : Nat) (S : SI) (q m : Int) (hok : okS m S) (hm : 0 ≤ m ∧ m ≤ 1000000) (hq : q ≤ 24) (F : List HProp) : Ct Tryz.prog 47 [ptr b 0, I q] ([ixl b S] ++ F) (R1 (I q) (ixl b (shareS S q) :: F)) := by
  show Ct Tryz.prog 47 [ptr b 0, I q] (ixl b S :: F) _
  refine Ct.of Tryz.func47 rfl 11 Tryz.ntmps47 (by simp) fun w0 => ?_
  refine g_seq ?_
  refine g_reg ?_
  refine g_v (v_assign rfl) rfl ?_
  refine g_nil ?_
  refine g_seq ?_
  refine g_seq ?_
  refine g_reg ?_
  refine g_v (v_move rfl) rfl ?_
  refine g_v (v_gtr rfl rfl) rfl ?_
  refine g_nil ?_
  refine g_cond rfl (fun h6 => ?_) (fun h6 => ?_)
  · simp at h6
    refine g_reg ?_
    refine g_v (v_move rfl) rfl ?_
    refine g_v (v_move rfl) rfl ?_
    refine g_l (l_call (Pre := [ixl b S]) Tryz.call79 rfl (ct_index_Index_ref b S q m hok hm (by omega))) rfl ?_
    rintro _ _ ⟨rfl, rfl⟩
    refine g_nil ?_
    refine g_seq ?_
    refine g_reg ?_
    refine g_v (v_move rfl) rfl ?_
    refine g_v (v_assign rfl) rfl ?_
    refine g_nil ?_
    rw [show (⟨S.B, bumpN S.N q⟩ : SI) = shareS S q by unfold shareS; rw [if_pos h6]]
    exact g_ret1 rfl rfl rfl
  · simp at h6
    refine g_skip ?_
    refine g_seq ?_
    refine g_reg ?_
    refine g_v (v_move rfl) rfl ?_
    refine g_v (v_assign rfl) rfl ?_
    refine g_nil ?_
    rw [show ixl b S = ixl b (shareS S q) by unfold shareS; rw [if_neg (by omega)]]
    exact g_ret1 rfl rfl rfl

theorem ct_index_Index_Free (b : Nat) (S : SI) (q m : Int) (hok : okS m S) (hm : 0 ≤ m ∧ m ≤ 1000000) (F : List HProp) : Ct Tryz.prog 50 [ptr b 0, I q] ([ixl b S] ++ F) (R1 (.tuple #[]) (ixl b (unR S q) :: F)) := by
  show Ct Tryz.prog 50 [ptr b 0, I q] (ixl b S :: F) _
  refine Ct.of Tryz.func50 rfl 7 Tryz.ntmps50 (by simp) fun w0 => ?_
  refine g_reg ?_
  refine g_v (v_move rfl) rfl ?_
  refine g_v (v_move rfl) rfl ?_
  refine g_l (l_call (Pre := [ixl b S]) Tryz.call84 rfl (ct_index_unrefR b S q m hok hm)) rfl ?_
  rintro _ _ ⟨rfl, rfl⟩
  refine g_nil ?_
  exact g_end1 rfl rfl rfl

end Go.Proofs.YthdjckbjjfiopacGreatDoor
