/- Walks: is an index what its model is? No condition. -/
import Derived.Test.YthdjckbjjfiopaaRIx3
import Derived.Test.YthdjckbjjfiopaaTopIx
import Derived.Test.YthdjckbjjfiopaaLight2
import Derived.Test.YthdjckbjjfiopaaArea5
import Derived.Test.YthdjckbjjfiopaaAreaLaw
namespace Go.Proofs.Ythdjckbjjfiopaa
open Go.Sl Go.Proofs
set_option linter.unusedVariables false
set_option linter.unusedSimpArgs false

theorem eq_Block (a b : Bk) (w : World) : (Op.equal 122 (.agg [Str a.1, I a.2].toArray) (.agg [Str b.1, I b.2].toArray)).run Try.prog w = .ok (decide (a = b)) w := by
  have h1 := run_eqS (P := Try.prog) (w := w) (a := a.1) (b := b.1) 9998 Try.underlying9
  have h2 := run_eqI (P := Try.prog) (w := w) (a := a.2) (b := b.2) 9998 Try.underlying3
  show (Op.equalIn (9999 + 1) _ _ _).run _ _ = _
  unfold Op.equalIn
  simp [underlying, program, Sem.run, Try.underlying122, Try.stoodInHeld122, Go.part, Try.isAgg9, Try.isAgg3, h1, h2]
  obtain ⟨a1, a2⟩ := a
  obtain ⟨b1, b2⟩ := b
  by_cases e1 : a1 = b1 <;> by_cases e2 : a2 = b2 <;> simp [e1, e2]
theorem eq_NodeS (n : Nd) (w : World) : (Op.equal 126 (.agg (ndC n).toArray) (.agg (ndC n).toArray)).run Try.prog w = .ok true w := by
  have h1 : (Op.equalIn 9999 124 (.agg (kdC n).toArray) (.agg (kdC n).toArray)).run Try.prog w = .ok true w := by
    have h := fun x : Int => run_eqI (P := Try.prog) (w := w) (a := x) (b := x) 9997 Try.underlying3
    show (Op.equalIn (9998 + 1) _ _ _).run _ _ = _
    unfold Op.equalIn
    simp [underlying, program, Sem.run, Try.underlying124, Try.sizeOf3, List.range', Std.Legacy.Range.forIn_eq_forIn_range', Std.Legacy.Range.size, Go.part, Try.isAgg3, h]
  have h2 := run_eqI (P := Try.prog) (w := w) (a := n.refs) (b := n.refs) 9998 Try.underlying3
  show (Op.equalIn (9999 + 1) _ _ _).run _ _ = _
  unfold Op.equalIn
  simp [underlying, program, Sem.run, Try.underlying126, Try.stoodInHeld126, Go.part, Try.isAgg124, Try.isAgg3, Try.sizeOf124, h1, h2]
theorem xC_ldB {X : XM} {k o : Nat} {T : TypeId} {f : Nat × Nat} (hk : k < 41) (ho : o = k * 2) : ∀ j v, ([Str (X.B k).1, I (X.B k).2] : List Value)[j]? = some v → objCell (.cells (xC X) T f) (o + j) = some v := fun j v h => by
  match j, h with
  | 0, h => simp at h; subst h; exact xC_data hk (by omega)
  | 1, h => simp at h; subst h; exact xC_refs hk (by omega)
  | j + 2, h => simp at h
theorem xC_ldN {X : XM} {k o : Nat} {T : TypeId} {f : Nat × Nat} (hk : k < 25) (ho : o = 82 + k * 5) : ∀ j v, (ndC (X.N k))[j]? = some v → objCell (.cells (xC X) T f) (o + j) = some v := fun j v h => by
  have hj : j < 5 := by have := (List.getElem?_eq_some_iff.1 h).1; simpa using this
  exact xC_nd (j := j) hk hj (by omega) h
theorem bldIx (w : World) : (Instr.build 129 #[]).run Try.prog w = .ok (.agg (xC (xS (mkG gZ)))) w := by
  have e : (Instr.build 129 #[]).run Try.prog w = (zeroValue 129).run Try.prog w := by
    simp [Instr.build, Try.zeroValue129, Try.runUnderlying129, Instr.fill, cells_agg]
  rw [e, Try.zeroValue129]
  have e2 : Try.zeroCells129 = xC xZ := by kernel_rfl
  rw [e2]
  rfl
theorem cnt_erase {l : List Int} {k : Nat} {x : Int} (h : l[k]? = some x) (q : Int) : cnt (l.take k ++ l.drop (k + 1)) q = cnt l q - if q = x ∧ x ≠ 0 then 1 else 0 := by
  have hl : l = l.take k ++ x :: l.drop (k + 1) := by
    obtain ⟨hk, e⟩ := List.getElem?_eq_some_iff.1 h
    rw [← e, ← List.drop_eq_getElem_cons hk, List.take_append_drop]
  have h1 : cnt l q = cnt (l.take k ++ x :: l.drop (k + 1)) q := by rw [← hl]
  rw [h1]
  unfold cnt
  by_cases hq : q = 0
  · subst hq
    rw [if_pos rfl, if_pos rfl, if_neg (fun h => h.2 h.1.symm)]
    rfl
  · rw [if_neg hq, if_neg hq, List.count_append, List.count_append, List.count_cons]
    by_cases hx : x = q
    · subst hx; simp [hq]; omega
    · simp [hx, Ne.symm hx]
theorem len_erase {l : List Int} {k : Nat} (h : k < l.length) : (l.take k ++ l.drop (k + 1)).length = l.length - 1 := by simp; omega
theorem RtShare {G G' : Gh} {roots : List Int} {q : Int} (h : Rt G roots) (V : Val G') (e1 : G'.eL = G.eL) (e2 : G'.eB = G.eB) (e3 : ∀ p, G'.eR p = G.eR p + if p = q ∧ q ≠ 0 then 1 else 0) : Rt G' (roots ++ [q]) :=
  ⟨V, fun p => by rw [e1]; exact h.eL p, fun p => by rw [e2]; exact h.eB p, fun p => by rw [e3, h.eR, cnt_app]⟩
theorem RtFree {G G' : Gh} {roots : List Int} {q : Int} {k : Nat} (h : Rt G roots) (hk : roots[k]? = some q) (V : Val G') (e : LessR G G') (e3 : ∀ p, G'.eR p = G.eR p - if p = q ∧ q ≠ 0 then 1 else 0) : Rt G' (roots.take k ++ roots.drop (k + 1)) :=
  ⟨V, fun p => by rw [e.eL]; exact h.eL p, fun p => by rw [e.eB]; exact h.eB p, fun p => by rw [e3, h.eR, cnt_erase hk]⟩
theorem RtHeld {G : Gh} {roots : List Int} {q : Int} (h : Rt G roots) (hq : q ∈ roots) : q ≠ 0 → 1 ≤ G.eR q := fun h0 => by rw [h.eR]; exact cnt_mem hq h0
theorem rows_erase (l : List Int) (k : Nat) : [] ++ ((intR l).drop 0).take k ++ ((intR l).drop (k + 1)).take (l.length - (k + 1)) = intR (l.take k ++ l.drop (k + 1)) := by
  rw [List.take_of_length_le (l := (intR l).drop (k + 1)) (by simp [intR])]
  simp [intR, List.map_take, List.map_drop]
def oldS : Bytes := [111, 108, 100]

theorem ct_L_indexes  (F : List HProp) : Ct Try.prog 87 [] ([] ++ F) (R1 (Bo true) F) := by
  show Ct Try.prog 87 [] (F) _
  refine Ct.of Try.func87 rfl 28 Try.ntmps87 (by simp) fun w0 => ?_
  refine g_seq ?_
  refine g_reg ?_
  refine g_v (v_assign rfl) rfl ?_
  refine g_nil ?_
  refine g_seq ?_
  refine g_reg ?_
  refine g_l (l_call (Pre := []) Try.call88 rfl (ct_index_New)) rfl ?_
  rintro _ _ ⟨b, rfl, rfl⟩
  rw [← gZ_mk]
  refine g_v (v_assign rfl) rfl ?_
  refine g_nil ?_
  refine g_seq ?_
  refine g_reg ?_
  refine g_v (v_move rfl) rfl ?_
  refine g_l (l_call (Pre := [ixl b (mkG gZ)]) Try.call89 rfl (ct_index_Index_Set b (mkG gZ) 0 5 [120] 1 gZ_ok (by decide) (by decide) (by decide) (rt_kidr gZ_val (.inl rfl)))) rfl ?_
  rintro _ _ ⟨rfl, rfl⟩
  obtain ⟨G, hS, hO⟩ := set_mk gZ_val (.inl rfl) (by decide) setZ
  have hok : okS 200 (mkG G) := RtOk (RtSet RtZ hO) (by simp)
  have hg5 : getS (mkG G) 2 5 = [120] := hO.get 5 (by decide)
  have hg4 : getS (mkG G) 2 4 = [] := (hO.get 4 (by decide)).trans (getZ 4)
  rw [hS, setZ]
  refine g_v (v_move rfl) rfl ?_
  refine g_v (v_extract (v := I 2) rfl rfl) rfl ?_
  refine g_v (v_extract (v := errV 0) rfl rfl) rfl ?_
  refine g_v (v_assign rfl) rfl ?_
  refine g_v (v_assign rfl) rfl ?_
  refine g_nil ?_
  refine g_seq ?_
  refine g_reg ?_
  refine g_v (v_move rfl) rfl ?_
  refine g_l (l_call (Pre := []) Try.call14 rfl (ct_L_same (0) (0) (by decide))) rfl ?_
  rintro _ _ ⟨rfl, rfl⟩
  refine g_v (v_move rfl) rfl ?_
  refine g_gv1 rfl rfl (by simp) (v_move rfl) rfl ?_
  refine g_gv1 rfl rfl (by simp) (v_gtr rfl rfl) rfl ?_
  refine g_v (v_and rfl rfl) rfl ?_
  refine g_v (v_move rfl) rfl ?_
  refine g_gv1 rfl rfl (by simp) (v_move rfl) rfl ?_
  refine g_gv1 rfl rfl (by simp) (v_move rfl) rfl ?_
  refine g_gl rfl rfl (by simp) (l_call (Pre := [ixl b (mkG G)]) Try.call97 rfl (ct_index_Index_Get b (mkG G) 2 5 200 hok (by decide) (by decide))) rfl ?_
  rintro _ _ ⟨rfl, rfl⟩
  rw [hg5]
  refine g_gv1 rfl rfl (by simp) (v_seql rfl rfl) rfl ?_
  refine g_v (v_and rfl rfl) rfl ?_
  refine g_v (v_move rfl) rfl ?_
  refine g_gv1 rfl rfl (by simp) (v_move rfl) rfl ?_
  refine g_gv1 rfl rfl (by simp) (v_move rfl) rfl ?_
  refine g_gl rfl rfl (by simp) (l_call (Pre := [ixl b (mkG G)]) Try.call97 rfl (ct_index_Index_Get b (mkG G) 2 4 200 hok (by decide) (by decide))) rfl ?_
  rintro _ _ ⟨rfl, rfl⟩
  rw [hg4]
  refine g_gv1 rfl rfl (by simp) (v_seql rfl rfl) rfl ?_
  refine g_v (v_and rfl rfl) rfl ?_
  refine g_v (v_assign rfl) rfl ?_
  refine g_nil ?_
  refine g_ret1 rfl rfl ?_
  show Bo _ = Bo true
  simp

theorem ct_L_asIndex (b b2 : Nat) (S : SI) (m : Int) (hok : okS m S) (hm : m ≤ 1000000) (F : List HProp) : Ct Try.prog 96 [ptr b 0, ptr b2 0] ([ixl b S, ixr b2 (xS S)] ++ F) (R1 (Bo true) (ixl b S :: ixr b2 (xS S) :: F)) := by
  show Ct Try.prog 96 [ptr b 0, ptr b2 0] (ixl b S :: ixr b2 (xS S) :: F) _
  refine Ct.of Try.func96 rfl 83 Try.ntmps96 (by simp) fun w0 => ?_
  refine g_openX b S ?_
  intro p r
  refine g_seq ?_
  refine g_reg ?_
  refine g_v (v_assign rfl) rfl ?_
  refine g_nil ?_
  refine g_seq ?_
  refine g_seq ?_
  refine g_reg ?_
  refine g_v (v_move rfl) rfl ?_
  refine g_v (v_nilCheck rfl) rfl ?_
  refine g_v (v_fieldAddr 0 Try.underlying215 rfl rfl Try.sizeOf118 (by decide) rfl) rfl ?_
  refine g_v (v_load (v := ptr p 0) Try.isAgg118 rfl rfl) rfl ?_
  refine g_l (l_call (Pre := [plb p S.B]) Try.call85 rfl (ct_pool_Numbers p S.B)) rfl ?_
  rintro _ _ ⟨s13, c13, rfl, rfl⟩
  refine g_freeze s13 ?_
  refine g_v (v_move rfl) rfl ?_
  refine g_l (l_call (Pre := [ixr b2 (xS S)]) Try.call86 rfl (ct_R_Blocks b2 (xS S) (fun k _ => xS_nn hok k))) rfl ?_
  rintro _ _ ⟨s15, c15, rfl, rfl⟩
  rw [bt_xS hok]
  refine g_freeze s15 ?_
  refine g_shutX p r b S (.refl _) ?_
  refine g_l (l_call (Pre := [roL 1 s13 (intR (ids 40 S.B)), roL 1 s15 (intR (ids 40 S.B))]) Try.call84 rfl (ct_R_SameNumbers (ids 40 S.B) (ids 40 S.B) s13 s15 c13 c15 (Nat.le_trans (ids_len_le 40 _) (by decide)))) rfl ?_
  rintro _ _ ⟨rfl, rfl⟩
  refine g_v (v_not rfl) rfl ?_
  refine g_v (v_move rfl) rfl ?_
  refine g_gv1 rfl rfl (by simp) (v_move rfl) rfl ?_
  refine g_gl rfl rfl (by simp) (l_call (Pre := [ixl b S]) Try.call164 rfl (ct_index_Numbers b S)) rfl ?_
  rintro _ _ ⟨s20, c20, rfl, rfl⟩
  refine g_freeze s20 ?_
  refine g_gv1 rfl rfl (by simp) (v_move rfl) rfl ?_
  refine g_gl rfl rfl (by simp) (l_call (Pre := [ixr b2 (xS S)]) Try.call165 rfl (ct_R_Nodes b2 S m hok)) rfl ?_
  rintro _ _ ⟨s22, c22, rfl, rfl⟩
  refine g_freeze s22 ?_
  refine g_gl rfl rfl (by simp) (l_call (Pre := [roL 1 s20 (intR (ids 24 S.N)), roL 1 s22 (intR (ids 24 S.N))]) Try.call84 rfl (ct_R_SameNumbers (ids 24 S.N) (ids 24 S.N) s20 s22 c20 c22 (Nat.le_trans (ids_len_le 24 _) (by decide)))) rfl ?_
  rintro _ _ ⟨rfl, rfl⟩
  refine g_gv1 rfl rfl (by simp) (v_not rfl) rfl ?_
  refine g_v (v_or rfl rfl) rfl ?_
  refine g_nil ?_
  refine g_cond rfl (fun h25 => ?_) (fun h25 => ?_)
  · simp at h25
  · skip
    refine g_skip ?_
    refine g_seq ?_
    refine g_reg ?_
    refine g_v (v_move rfl) rfl ?_
    refine g_l (l_call (Pre := [ixr b2 (xS S)]) Try.call86 rfl (ct_R_Blocks b2 (xS S) (fun k _ => xS_nn hok k))) rfl ?_
    rintro _ _ ⟨s27, c27, rfl, rfl⟩
    rw [bt_xS hok]
    refine g_freeze s27 ?_
    refine g_v (v_assign rfl) rfl ?_
    refine g_nil ?_
    refine g_seq ?_
    refine g_seq ?_
    refine g_openX b S ?_
    intro p r
    refine g_openP p S.B ?_
    intro r2
    refine g_reg ?_
    refine g_v (v_assign rfl) rfl ?_
    refine g_nil ?_
    refine g_block ?_
    refine g_loop (α := Nat) (fun k => k ≤ (ids 40 S.B).length) (fun k => U [(0, ptr b 0), (1, ptr b2 0), (5, sl s27 (ids 40 S.B).length c27), (6, I k)]) (fun k => roL 1 s27 (intR (ids 40 S.B)) :: pt b (.cells #[ptr p 0, .map (some r)] 215 (0, 0)) :: pt p (.cells #[.map (some r2)] 137 (0, 0)) :: mp r2 (tb encB 40 S.B) :: mp r (tb encN 24 S.N) :: ixr b2 (xS S) :: F) (fun k => (ids 40 S.B).length - k) 0 (by simp) [0, 1, 5, 6] rfl rfl ?_
    intro k hk
    refine g_seq ?_
    refine g_seq ?_
    refine g_reg ?_
    refine g_v (v_move rfl) rfl ?_
    refine g_v (v_move rfl) rfl ?_
    refine g_v (v_len Try.underlying90 rfl) rfl ?_
    refine g_v (v_lss rfl rfl) rfl ?_
    refine g_nil ?_
    refine g_cond rfl (fun h31 => ?_) (fun h31 => ?_)
    · have hil := ids_len_le 40 S.B
      have hki : k < (ids 40 S.B).length := by simpa using h31
      obtain ⟨q, hq⟩ : ∃ q, (ids 40 S.B)[k]? = some q := ⟨_, List.getElem?_eq_getElem hki⟩
      obtain ⟨hqr, hqs⟩ := mem_ids.1 (List.mem_of_getElem? hq)
      obtain ⟨y, hy⟩ := Option.isSome_iff_exists.1 hqs
      have hlk : (lk (tb encB 40 S.B) q).getD (.agg #[Str [], I 0]) = encB ((xS S).B q.toNat) := by rw [lkB hok.1, xS_B (by omega) hy, hy]; rfl
      refine g_skip ?_
      refine g_seq ?_
      refine g_block ?_
      refine g_seq ?_
      refine g_drawL [(0, false), (1, false), (2, false), (3, false), (4, false), (5, false), (6, false), (7, false), (8, false), (9, false), (10, false), (11, false), (12, false), (13, false), (14, false), (15, false), (16, false), (17, false), (18, false), (19, false), (20, false), (21, false)] (by kernel_rfl) (by kernel_rfl) rfl (by kernel_rfl) ?_
      refine d_v rfl (v_move rfl) rfl ?_
      refine d_v rfl (v_nilCheck rfl) rfl ?_
      refine d_v rfl (v_fieldAddr 0 Try.underlying215 rfl rfl Try.sizeOf118 (by decide) rfl) rfl ?_
      refine d_v rfl (v_load (v := ptr p 0) Try.isAgg118 rfl rfl) rfl ?_
      refine d_v rfl (v_nilCheck rfl) rfl ?_
      refine d_v rfl (v_fieldAddr 0 Try.underlying137 rfl rfl Try.sizeOf135 (by decide) rfl) rfl ?_
      refine d_v rfl (v_load (v := .map (some r2)) Try.isAgg135 rfl rfl) rfl ?_
      refine d_v rfl (v_move rfl) rfl ?_
      refine d_v rfl (v_move rfl) rfl ?_
      refine d_v rfl (v_idxS k Try.underlying90 Try.sizeOf3 rfl rfl rfl hki (by rw [intR_len]; exact hki)) rfl ?_
      refine d_v rfl (v_loadS0 (v := I q) Try.isAgg3 rfl (intR_at hq) rfl) rfl ?_
      refine d_v rfl (v_lookup (v := encB ((xS S).B q.toNat)) Try.underlying135 Try.underlying3 Try.zeroValue122 rfl rfl hlk) rfl ?_
      refine d_v rfl (v_move rfl) rfl ?_
      refine d_v rfl (v_move rfl) rfl ?_
      refine d_v rfl (v_move rfl) rfl ?_
      refine d_v rfl (v_idxS k Try.underlying90 Try.sizeOf3 rfl rfl rfl hki (by rw [intR_len]; exact hki)) rfl ?_
      refine d_v rfl (v_loadS0 (v := I q) Try.isAgg3 rfl (intR_at hq) rfl) rfl ?_
      refine d_v rfl (v_nilCheck rfl) rfl ?_
      refine d_v rfl (v_fieldAddr 0 Try.underlying129 rfl rfl Try.sizeOf123 (by decide) rfl) rfl ?_
      refine d_v rfl (v_idxA q.toNat Try.underlying123 Try.sizeOf122 rfl rfl (by omega) (by omega)) rfl ?_
      refine d_v rfl (v_loadA (vs := [Str ((xS S).B q.toNat).1, I ((xS S).B q.toNat).2]) Try.isAgg122 Try.sizeOf122 rfl rfl (xC_ldB (by omega) (by omega))) rfl ?_
      refine d_v rfl (v_aneq Try.eqGuardType122 rfl rfl (eq_Block ((xS S).B q.toNat) ((xS S).B q.toNat))) rfl ?_
      refine d_nil ?_
      refine g_cond rfl (fun h55 => ?_) (fun h55 => ?_)
      · simp at h55
      · skip
        refine g_skip ?_
        refine g_blk ?_
        refine g_reg ?_
        refine g_v (v_move rfl) rfl ?_
        refine g_v (v_add rfl rfl (w64 (by omega))) rfl ?_
        refine g_v (v_assign rfl) rfl ?_
        refine g_nil ?_
        exact g_again (k + 1) (by omega) (by omega) [0, 1, 5, 6] rfl rfl
    · skip
      refine g_exit rfl ?_
      refine g_seq ?_
      refine g_reg ?_
      refine g_v (v_move rfl) rfl ?_
      refine g_l (l_call (Pre := [ixr b2 (xS S)]) Try.call165 rfl (ct_R_Nodes b2 S m hok)) rfl ?_
      rintro _ _ ⟨s57, c57, rfl, rfl⟩
      refine g_freeze s57 ?_
      refine g_v (v_assign rfl) rfl ?_
      refine g_nil ?_
      refine g_seq ?_
      refine g_seq ?_
      refine g_shutP r2 p S.B (.refl _) ?_
      refine g_reg ?_
      refine g_v (v_assign rfl) rfl ?_
      refine g_nil ?_
      refine g_block ?_
      refine g_loop (α := Nat) (fun k => k ≤ (ids 24 S.N).length) (fun k => U [(0, ptr b 0), (1, ptr b2 0), (7, sl s57 (ids 24 S.N).length c57), (8, I k)]) (fun k => roL 1 s57 (intR (ids 24 S.N)) :: pt b (.cells #[ptr p 0, .map (some r)] 215 (0, 0)) :: plb p S.B :: mp r (tb encN 24 S.N) :: ixr b2 (xS S) :: F) (fun k => (ids 24 S.N).length - k) 0 (by simp) [0, 1, 7, 8] rfl rfl ?_
      intro k hk
      refine g_seq ?_
      refine g_seq ?_
      refine g_reg ?_
      refine g_v (v_move rfl) rfl ?_
      refine g_v (v_move rfl) rfl ?_
      refine g_v (v_len Try.underlying90 rfl) rfl ?_
      refine g_v (v_lss rfl rfl) rfl ?_
      refine g_nil ?_
      refine g_cond rfl (fun h61 => ?_) (fun h61 => ?_)
      · have hil := ids_len_le 24 S.N
        have hki : k < (ids 24 S.N).length := by simpa using h61
        obtain ⟨q, hq⟩ : ∃ q, (ids 24 S.N)[k]? = some q := ⟨_, List.getElem?_eq_getElem hki⟩
        obtain ⟨hqr, hqs⟩ := mem_ids.1 (List.mem_of_getElem? hq)
        refine g_skip ?_
        refine g_seq ?_
        refine g_block ?_
        refine g_seq ?_
        refine g_drawL [(0, false), (1, false), (2, false), (3, false), (4, false), (5, false), (6, false), (7, false), (8, false), (9, false), (10, false), (11, false), (12, false), (13, false), (14, false), (15, false), (16, false), (17, false), (18, false)] (by kernel_rfl) (by kernel_rfl) rfl (by kernel_rfl) ?_
        refine d_v rfl (v_move rfl) rfl ?_
        refine d_v rfl (v_nilCheck rfl) rfl ?_
        refine d_v rfl (v_fieldAddr 1 Try.underlying215 rfl rfl Try.sizeOf213 (by decide) rfl) rfl ?_
        refine d_v rfl (v_load (v := .map (some r)) Try.isAgg213 rfl rfl) rfl ?_
        refine d_v rfl (v_move rfl) rfl ?_
        refine d_v rfl (v_move rfl) rfl ?_
        refine d_v rfl (v_idxS k Try.underlying90 Try.sizeOf3 rfl rfl rfl hki (by rw [intR_len]; exact hki)) rfl ?_
        refine d_v rfl (v_loadS0 (v := I q) Try.isAgg3 rfl (intR_at hq) rfl) rfl ?_
        refine d_v rfl (v_lookup (v := encN (gN S.N q)) Try.underlying213 Try.underlying3 Try.zeroValue126 rfl rfl (lkN hok.2.2.1 _)) rfl ?_
        refine d_v rfl (v_move rfl) rfl ?_
        refine d_v rfl (v_move rfl) rfl ?_
        refine d_v rfl (v_move rfl) rfl ?_
        refine d_v rfl (v_idxS k Try.underlying90 Try.sizeOf3 rfl rfl rfl hki (by rw [intR_len]; exact hki)) rfl ?_
        refine d_v rfl (v_loadS0 (v := I q) Try.isAgg3 rfl (intR_at hq) rfl) rfl ?_
        refine d_v rfl (v_nilCheck rfl) rfl ?_
        refine d_v rfl (v_fieldAddr 82 Try.underlying129 rfl rfl Try.sizeOf127 (by decide) rfl) rfl ?_
        refine d_v rfl (v_idxA q.toNat Try.underlying127 Try.sizeOf126 rfl rfl (by omega) (by omega)) rfl ?_
        refine d_v rfl (v_loadA (vs := ndC (gN S.N q)) Try.isAgg126 Try.sizeOf126 rfl rfl (by rw [← xS_gN (by omega)]; exact xC_ldN (by omega) (by omega))) rfl ?_
        refine d_v rfl (v_aneq Try.eqGuardType126 rfl rfl (eq_NodeS (gN S.N q))) rfl ?_
        refine d_nil ?_
        refine g_cond rfl (fun h82 => ?_) (fun h82 => ?_)
        · simp at h82
        · skip
          refine g_skip ?_
          refine g_blk ?_
          refine g_reg ?_
          refine g_v (v_move rfl) rfl ?_
          refine g_v (v_add rfl rfl (w64 (by omega))) rfl ?_
          refine g_v (v_assign rfl) rfl ?_
          refine g_nil ?_
          exact g_again (k + 1) (by omega) (by omega) [0, 1, 7, 8] rfl rfl
      · refine g_shutX p r b S (.refl _) ?_
        refine g_exit rfl ?_
        refine g_seq ?_
        refine g_reg ?_
        refine g_v (v_assign rfl) rfl ?_
        refine g_nil ?_
        refine g_ret1 rfl rfl ?_
        exact rfl

end Go.Proofs.Ythdjckbjjfiopaa
