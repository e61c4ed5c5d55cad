/- Walks: is an index what its model is? No condition. -/
import Derived.Test.YthdjckbjjfiopaaGreatDoorRIx3
import Derived.Test.YthdjckbjjfiopaaGreatDoorTopIx
import Derived.Test.YthdjckbjjfiopaaGreatDoorPartA
namespace Go.Proofs.YthdjckbjjfiopaaGreatDoor
open Go.Sl Go.Proofs
set_option linter.unusedVariables false
set_option linter.unusedSimpArgs false

theorem eq_Block (a b : Bk) (w : World) : (Op.equal 61 (.agg [Str a.1, I a.2].toArray) (.agg [Str b.1, I b.2].toArray)).run Tryz.prog w = .ok (decide (a = b)) w := by
  have h1 := run_eqS (P := Tryz.prog) (w := w) (a := a.1) (b := b.1) 9998 Tryz.underlying9
  have h2 := run_eqI (P := Tryz.prog) (w := w) (a := a.2) (b := b.2) 9998 Tryz.underlying3
  show (Op.equalIn (9999 + 1) _ _ _).run _ _ = _
  unfold Op.equalIn
  simp [underlying, program, Sem.run, Tryz.underlying61, Tryz.stoodInHeld61, Go.part, Tryz.isAgg9, Tryz.isAgg3, h1, h2]
  obtain ⟨a1, a2⟩ := a
  obtain ⟨b1, b2⟩ := b
  by_cases e1 : a1 = b1 <;> by_cases e2 : a2 = b2 <;> simp [e1, e2]
theorem eq_NodeS (n : Nd) (w : World) : (Op.equal 65 (.agg (ndC n).toArray) (.agg (ndC n).toArray)).run Tryz.prog w = .ok true w := by
  have h1 : (Op.equalIn 9999 63 (.agg (kdC n).toArray) (.agg (kdC n).toArray)).run Tryz.prog w = .ok true w := by
    have h := fun x : Int => run_eqI (P := Tryz.prog) (w := w) (a := x) (b := x) 9997 Tryz.underlying3
    show (Op.equalIn (9998 + 1) _ _ _).run _ _ = _
    unfold Op.equalIn
    simp [underlying, program, Sem.run, Tryz.underlying63, Tryz.sizeOf3, List.range', Std.Legacy.Range.forIn_eq_forIn_range', Std.Legacy.Range.size, Go.part, Tryz.isAgg3, h]
  have h2 := run_eqI (P := Tryz.prog) (w := w) (a := n.refs) (b := n.refs) 9998 Tryz.underlying3
  show (Op.equalIn (9999 + 1) _ _ _).run _ _ = _
  unfold Op.equalIn
  simp [underlying, program, Sem.run, Tryz.underlying65, Tryz.stoodInHeld65, Go.part, Tryz.isAgg63, Tryz.isAgg3, Tryz.sizeOf63, h1, h2]
theorem xC_ldB {X : XM} {k o : Nat} {T : TypeId} {f : Nat × Nat} (hk : k < 41) (ho : o = k * 2) : ∀ j v, ([Str (X.B k).1, I (X.B k).2] : List Value)[j]? = some v → objCell (.cells (xC X) T f) (o + j) = some v := fun j v h => by
  match j, h with
  | 0, h => simp at h; subst h; exact xC_data hk (by omega)
  | 1, h => simp at h; subst h; exact xC_refs hk (by omega)
  | j + 2, h => simp at h
theorem xC_ldN {X : XM} {k o : Nat} {T : TypeId} {f : Nat × Nat} (hk : k < 25) (ho : o = 82 + k * 5) : ∀ j v, (ndC (X.N k))[j]? = some v → objCell (.cells (xC X) T f) (o + j) = some v := fun j v h => by
  have hj : j < 5 := by have := (List.getElem?_eq_some_iff.1 h).1; simpa using this
  exact xC_nd (j := j) hk hj (by omega) h
theorem ct_L_asIndex (b b2 : Nat) (S : SI) (m : Int) (hok : okS m S) (hm : m ≤ 1000000) (F : List HProp) : Ct Tryz.prog 38 [ptr b 0, ptr b2 0] ([ixl b S, ixr b2 (xS S)] ++ F) (R1 (Bo true) (ixl b S :: ixr b2 (xS S) :: F)) := by
  show Ct Tryz.prog 38 [ptr b 0, ptr b2 0] (ixl b S :: ixr b2 (xS S) :: F) _
  refine Ct.of Tryz.func38 rfl 83 Tryz.ntmps38 (by simp) fun w0 => ?_
  refine g_openX b S ?_
  intro p r
  refine g_seq ?_
  refine g_reg ?_
  refine g_v (v_assign rfl) rfl ?_
  refine g_nil ?_
  refine g_seq ?_
  refine g_seq ?_
  refine g_reg ?_
  refine g_v (v_move rfl) rfl ?_
  refine g_v (v_nilCheck rfl) rfl ?_
  refine g_v (v_fieldAddr 0 Tryz.underlying86 rfl rfl Tryz.sizeOf83 (by decide) rfl) rfl ?_
  refine g_v (v_load (v := ptr p 0) Tryz.isAgg83 rfl rfl) rfl ?_
  refine g_l (l_call (Pre := [plb p S.B]) Tryz.call30 rfl (ct_pool_Numbers p S.B)) rfl ?_
  rintro _ _ ⟨s13, c13, rfl, rfl⟩
  refine g_freeze s13 ?_
  refine g_v (v_move rfl) rfl ?_
  refine g_l (l_call (Pre := [ixr b2 (xS S)]) Tryz.call33 rfl (ct_R_Blocks b2 (xS S) (fun k _ => xS_nn hok k))) rfl ?_
  rintro _ _ ⟨s15, c15, rfl, rfl⟩
  rw [bt_xS hok]
  refine g_freeze s15 ?_
  refine g_shutX p r b S (.refl _) ?_
  refine g_l (l_call (Pre := [roL 1 s13 (intR (ids 40 S.B)), roL 1 s15 (intR (ids 40 S.B))]) Tryz.call70 rfl (ct_R_SameNumbers (ids 40 S.B) (ids 40 S.B) s13 s15 c13 c15 (Nat.le_trans (ids_len_le 40 _) (by decide)))) rfl ?_
  rintro _ _ ⟨rfl, rfl⟩
  refine g_v (v_not rfl) rfl ?_
  refine g_v (v_move rfl) rfl ?_
  refine g_gv1 rfl rfl (by simp) (v_move rfl) rfl ?_
  refine g_gl rfl rfl (by simp) (l_call (Pre := [ixl b S]) Tryz.call32 rfl (ct_index_Numbers b S)) rfl ?_
  rintro _ _ ⟨s20, c20, rfl, rfl⟩
  refine g_freeze s20 ?_
  refine g_gv1 rfl rfl (by simp) (v_move rfl) rfl ?_
  refine g_gl rfl rfl (by simp) (l_call (Pre := [ixr b2 (xS S)]) Tryz.call35 rfl (ct_R_Nodes b2 S m hok)) rfl ?_
  rintro _ _ ⟨s22, c22, rfl, rfl⟩
  refine g_freeze s22 ?_
  refine g_gl rfl rfl (by simp) (l_call (Pre := [roL 1 s20 (intR (ids 24 S.N)), roL 1 s22 (intR (ids 24 S.N))]) Tryz.call70 rfl (ct_R_SameNumbers (ids 24 S.N) (ids 24 S.N) s20 s22 c20 c22 (Nat.le_trans (ids_len_le 24 _) (by decide)))) rfl ?_
  rintro _ _ ⟨rfl, rfl⟩
  refine g_gv1 rfl rfl (by simp) (v_not rfl) rfl ?_
  refine g_v (v_or rfl rfl) rfl ?_
  refine g_nil ?_
  refine g_cond rfl (fun h25 => ?_) (fun h25 => ?_)
  · simp at h25
  · skip
    refine g_skip ?_
    refine g_seq ?_
    refine g_reg ?_
    refine g_v (v_move rfl) rfl ?_
    refine g_l (l_call (Pre := [ixr b2 (xS S)]) Tryz.call33 rfl (ct_R_Blocks b2 (xS S) (fun k _ => xS_nn hok k))) rfl ?_
    rintro _ _ ⟨s27, c27, rfl, rfl⟩
    rw [bt_xS hok]
    refine g_freeze s27 ?_
    refine g_v (v_assign rfl) rfl ?_
    refine g_nil ?_
    refine g_seq ?_
    refine g_seq ?_
    refine g_openX b S ?_
    intro p r
    refine g_openP p S.B ?_
    intro r2
    refine g_reg ?_
    refine g_v (v_assign rfl) rfl ?_
    refine g_nil ?_
    refine g_block ?_
    refine g_loop (α := Nat) (fun k => k ≤ (ids 40 S.B).length) (fun k => U [(0, ptr b 0), (1, ptr b2 0), (5, sl s27 (ids 40 S.B).length c27), (6, I k)]) (fun k => roL 1 s27 (intR (ids 40 S.B)) :: pt b (.cells #[ptr p 0, .map (some r)] 86 (0, 0)) :: pt p (.cells #[.map (some r2)] 90 (0, 0)) :: mp r2 (tb encB 40 S.B) :: mp r (tb encN 24 S.N) :: ixr b2 (xS S) :: F) (fun k => (ids 40 S.B).length - k) 0 (by simp) [0, 1, 5, 6] rfl rfl ?_
    intro k hk
    refine g_seq ?_
    refine g_seq ?_
    refine g_reg ?_
    refine g_v (v_move rfl) rfl ?_
    refine g_v (v_move rfl) rfl ?_
    refine g_v (v_len Tryz.underlying82 rfl) rfl ?_
    refine g_v (v_lss rfl rfl) rfl ?_
    refine g_nil ?_
    refine g_cond rfl (fun h31 => ?_) (fun h31 => ?_)
    · have hil := ids_len_le 40 S.B
      have hki : k < (ids 40 S.B).length := by simpa using h31
      obtain ⟨q, hq⟩ : ∃ q, (ids 40 S.B)[k]? = some q := ⟨_, List.getElem?_eq_getElem hki⟩
      obtain ⟨hqr, hqs⟩ := mem_ids.1 (List.mem_of_getElem? hq)
      obtain ⟨y, hy⟩ := Option.isSome_iff_exists.1 hqs
      have hlk : (lk (tb encB 40 S.B) q).getD (.agg #[Str [], I 0]) = encB ((xS S).B q.toNat) := by rw [lkB hok.1, xS_B (by omega) hy, hy]; rfl
      refine g_skip ?_
      refine g_seq ?_
      refine g_block ?_
      refine g_seq ?_
      refine g_drawL [(0, false), (1, false), (2, false), (3, false), (4, false), (5, false), (6, false), (7, false), (8, false), (9, false), (10, false), (11, false), (12, false), (13, false), (14, false), (15, false), (16, false), (17, false), (18, false), (19, false), (20, false), (21, false)] (by kernel_rfl) (by kernel_rfl) rfl (by kernel_rfl) ?_
      refine d_v rfl (v_move rfl) rfl ?_
      refine d_v rfl (v_nilCheck rfl) rfl ?_
      refine d_v rfl (v_fieldAddr 0 Tryz.underlying86 rfl rfl Tryz.sizeOf83 (by decide) rfl) rfl ?_
      refine d_v rfl (v_load (v := ptr p 0) Tryz.isAgg83 rfl rfl) rfl ?_
      refine d_v rfl (v_nilCheck rfl) rfl ?_
      refine d_v rfl (v_fieldAddr 0 Tryz.underlying90 rfl rfl Tryz.sizeOf88 (by decide) rfl) rfl ?_
      refine d_v rfl (v_load (v := .map (some r2)) Tryz.isAgg88 rfl rfl) rfl ?_
      refine d_v rfl (v_move rfl) rfl ?_
      refine d_v rfl (v_move rfl) rfl ?_
      refine d_v rfl (v_idxS k Tryz.underlying82 Tryz.sizeOf3 rfl rfl rfl hki (by rw [intR_len]; exact hki)) rfl ?_
      refine d_v rfl (v_loadS0 (v := I q) Tryz.isAgg3 rfl (intR_at hq) rfl) rfl ?_
      refine d_v rfl (v_lookup (v := encB ((xS S).B q.toNat)) Tryz.underlying88 Tryz.underlying3 Tryz.zeroValue61 rfl rfl hlk) rfl ?_
      refine d_v rfl (v_move rfl) rfl ?_
      refine d_v rfl (v_move rfl) rfl ?_
      refine d_v rfl (v_move rfl) rfl ?_
      refine d_v rfl (v_idxS k Tryz.underlying82 Tryz.sizeOf3 rfl rfl rfl hki (by rw [intR_len]; exact hki)) rfl ?_
      refine d_v rfl (v_loadS0 (v := I q) Tryz.isAgg3 rfl (intR_at hq) rfl) rfl ?_
      refine d_v rfl (v_nilCheck rfl) rfl ?_
      refine d_v rfl (v_fieldAddr 0 Tryz.underlying68 rfl rfl Tryz.sizeOf62 (by decide) rfl) rfl ?_
      refine d_v rfl (v_idxA q.toNat Tryz.underlying62 Tryz.sizeOf61 rfl rfl (by omega) (by omega)) rfl ?_
      refine d_v rfl (v_loadA (vs := [Str ((xS S).B q.toNat).1, I ((xS S).B q.toNat).2]) Tryz.isAgg61 Tryz.sizeOf61 rfl rfl (xC_ldB (by omega) (by omega))) rfl ?_
      refine d_v rfl (v_aneq Tryz.eqGuardType61 rfl rfl (eq_Block ((xS S).B q.toNat) ((xS S).B q.toNat))) rfl ?_
      refine d_nil ?_
      refine g_cond rfl (fun h55 => ?_) (fun h55 => ?_)
      · simp at h55
      · skip
        refine g_skip ?_
        refine g_blk ?_
        refine g_reg ?_
        refine g_v (v_move rfl) rfl ?_
        refine g_v (v_add rfl rfl (w64 (by omega))) rfl ?_
        refine g_v (v_assign rfl) rfl ?_
        refine g_nil ?_
        exact g_again (k + 1) (by omega) (by omega) [0, 1, 5, 6] rfl rfl
    · skip
      refine g_exit rfl ?_
      refine g_seq ?_
      refine g_reg ?_
      refine g_v (v_move rfl) rfl ?_
      refine g_l (l_call (Pre := [ixr b2 (xS S)]) Tryz.call35 rfl (ct_R_Nodes b2 S m hok)) rfl ?_
      rintro _ _ ⟨s57, c57, rfl, rfl⟩
      refine g_freeze s57 ?_
      refine g_v (v_assign rfl) rfl ?_
      refine g_nil ?_
      refine g_seq ?_
      refine g_seq ?_
      refine g_shutP r2 p S.B (.refl _) ?_
      refine g_reg ?_
      refine g_v (v_assign rfl) rfl ?_
      refine g_nil ?_
      refine g_block ?_
      refine g_loop (α := Nat) (fun k => k ≤ (ids 24 S.N).length) (fun k => U [(0, ptr b 0), (1, ptr b2 0), (7, sl s57 (ids 24 S.N).length c57), (8, I k)]) (fun k => roL 1 s57 (intR (ids 24 S.N)) :: pt b (.cells #[ptr p 0, .map (some r)] 86 (0, 0)) :: plb p S.B :: mp r (tb encN 24 S.N) :: ixr b2 (xS S) :: F) (fun k => (ids 24 S.N).length - k) 0 (by simp) [0, 1, 7, 8] rfl rfl ?_
      intro k hk
      refine g_seq ?_
      refine g_seq ?_
      refine g_reg ?_
      refine g_v (v_move rfl) rfl ?_
      refine g_v (v_move rfl) rfl ?_
      refine g_v (v_len Tryz.underlying82 rfl) rfl ?_
      refine g_v (v_lss rfl rfl) rfl ?_
      refine g_nil ?_
      refine g_cond rfl (fun h61 => ?_) (fun h61 => ?_)
      · have hil := ids_len_le 24 S.N
        have hki : k < (ids 24 S.N).length := by simpa using h61
        obtain ⟨q, hq⟩ : ∃ q, (ids 24 S.N)[k]? = some q := ⟨_, List.getElem?_eq_getElem hki⟩
        obtain ⟨hqr, hqs⟩ := mem_ids.1 (List.mem_of_getElem? hq)
        refine g_skip ?_
        refine g_seq ?_
        refine g_block ?_
        refine g_seq ?_
        refine g_drawL [(0, false), (1, false), (2, false), (3, false), (4, false), (5, false), (6, false), (7, false), (8, false), (9, false), (10, false), (11, false), (12, false), (13, false), (14, false), (15, false), (16, false), (17, false), (18, false)] (by kernel_rfl) (by kernel_rfl) rfl (by kernel_rfl) ?_
        refine d_v rfl (v_move rfl) rfl ?_
        refine d_v rfl (v_nilCheck rfl) rfl ?_
        refine d_v rfl (v_fieldAddr 1 Tryz.underlying86 rfl rfl Tryz.sizeOf84 (by decide) rfl) rfl ?_
        refine d_v rfl (v_load (v := .map (some r)) Tryz.isAgg84 rfl rfl) rfl ?_
        refine d_v rfl (v_move rfl) rfl ?_
        refine d_v rfl (v_move rfl) rfl ?_
        refine d_v rfl (v_idxS k Tryz.underlying82 Tryz.sizeOf3 rfl rfl rfl hki (by rw [intR_len]; exact hki)) rfl ?_
        refine d_v rfl (v_loadS0 (v := I q) Tryz.isAgg3 rfl (intR_at hq) rfl) rfl ?_
        refine d_v rfl (v_lookup (v := encN (gN S.N q)) Tryz.underlying84 Tryz.underlying3 Tryz.zeroValue65 rfl rfl (lkN hok.2.2.1 _)) rfl ?_
        refine d_v rfl (v_move rfl) rfl ?_
        refine d_v rfl (v_move rfl) rfl ?_
        refine d_v rfl (v_move rfl) rfl ?_
        refine d_v rfl (v_idxS k Tryz.underlying82 Tryz.sizeOf3 rfl rfl rfl hki (by rw [intR_len]; exact hki)) rfl ?_
        refine d_v rfl (v_loadS0 (v := I q) Tryz.isAgg3 rfl (intR_at hq) rfl) rfl ?_
        refine d_v rfl (v_nilCheck rfl) rfl ?_
        refine d_v rfl (v_fieldAddr 82 Tryz.underlying68 rfl rfl Tryz.sizeOf66 (by decide) rfl) rfl ?_
        refine d_v rfl (v_idxA q.toNat Tryz.underlying66 Tryz.sizeOf65 rfl rfl (by omega) (by omega)) rfl ?_
        refine d_v rfl (v_loadA (vs := ndC (gN S.N q)) Tryz.isAgg65 Tryz.sizeOf65 rfl rfl (by rw [← xS_gN (by omega)]; exact xC_ldN (by omega) (by omega))) rfl ?_
        refine d_v rfl (v_aneq Tryz.eqGuardType65 rfl rfl (eq_NodeS (gN S.N q))) rfl ?_
        refine d_nil ?_
        refine g_cond rfl (fun h82 => ?_) (fun h82 => ?_)
        · simp at h82
        · skip
          refine g_skip ?_
          refine g_blk ?_
          refine g_reg ?_
          refine g_v (v_move rfl) rfl ?_
          refine g_v (v_add rfl rfl (w64 (by omega))) rfl ?_
          refine g_v (v_assign rfl) rfl ?_
          refine g_nil ?_
          exact g_again (k + 1) (by omega) (by omega) [0, 1, 7, 8] rfl rfl
      · refine g_shutX p r b S (.refl _) ?_
        refine g_exit rfl ?_
        refine g_seq ?_
        refine g_reg ?_
        refine g_v (v_assign rfl) rfl ?_
        refine g_nil ?_
        refine g_ret1 rfl rfl ?_
        exact rfl

end Go.Proofs.YthdjckbjjfiopaaGreatDoor
