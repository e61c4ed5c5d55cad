/- The walk through the law IndexSays. No condition. -/
import Derived.Test.YthdjckbjjfiopaaRIx3
import Derived.Test.YthdjckbjjfiopaaLight2
import Derived.Test.YthdjckbjjfiopaaArea5
import Derived.Test.YthdjckbjjfiopaaAreaLaw
namespace Go.Proofs.Ythdjckbjjfiopaa
open Go.Sl Go.Proofs
set_option linter.unusedVariables false
set_option linter.unusedSimpArgs false
theorem cnt_app (l : List Int) (x q : Int) : cnt (l ++ [x]) q = cnt l q + if q = x ∧ x ≠ 0 then 1 else 0 := by
  unfold cnt
  by_cases hq : q = 0
  · subst hq
    rw [if_pos rfl, if_pos rfl, if_neg (fun h => h.2 h.1.symm)]
    rfl
  · rw [if_neg hq, if_neg hq, List.count_append, List.count_cons]
    by_cases hx : x = q
    · subst hx; simp [hq]
    · simp [hx, Ne.symm hx]
theorem cnt_le (l : List Int) (q : Int) : cnt l q ≤ l.length := by
  unfold cnt
  split
  · omega
  · have := List.count_le_length (l := l) (a := q)
    omega
theorem cnt_mem {l : List Int} {q : Int} (h : q ∈ l) (h0 : q ≠ 0) : 1 ≤ cnt l q := by
  unfold cnt
  rw [if_neg h0]
  have := List.count_pos_iff.2 h
  omega
/-- an index and the roots that are held -/
structure Rt (G : Gh) (roots : List Int) : Prop where
  V : Val G
  eL : ∀ q, G.eL q = 0
  eB : ∀ q, G.eB q = 0
  eR : ∀ q, G.eR q = cnt roots q
theorem RtRt {G : Gh} {roots : List Int} (h : Rt G roots) {q : Int} (hq : q ∈ roots) : rt G q := by
  by_cases h0 : q = 0
  · exact .inl h0
  · refine .inr (Option.isSome_iff_exists.1 ((h.V.pR q h0).2 ?_))
    have := cnt_mem hq h0
    rw [h.eR]
    omega
theorem RtOk {G : Gh} {roots : List Int} (h : Rt G roots) {m : Int} (hm : (roots.length : Int) + 96 ≤ m) : okS m (mkG G) := okS_mono (mk_ok h.V (m := roots.length) (fun q => by rw [h.eR]; exact cnt_le _ _) (fun q => by rw [h.eL]; omega) (fun q => by rw [h.eB]; omega)) hm
theorem RtKid {G : Gh} {roots : List Int} (h : Rt G roots) {q : Int} (hq : q ∈ roots) : ∀ i, i < 4 → 0 ≤ kat (gN (mkG G).N q) i ∧ kat (gN (mkG G).N q) i ≤ 24 := fun i hi => lf_rng h.V (rt_kid h.V (RtRt h hq) hi)
theorem rt_kidr {G : Gh} (V : Val G) {q : Int} (h : rt G q) : ∀ i, i < 4 → 0 ≤ kat (gN (mkG G).N q) i ∧ kat (gN (mkG G).N q) i ≤ 24 := fun i hi => lf_rng V (rt_kid V h hi)
theorem RtSet {G G' : Gh} {roots : List Int} {root out : Int} {at_ : Nat} {d : Bytes} (h : Rt G roots) (o : SetOk G G' root at_ d out) : Rt G' (roots ++ [out]) :=
  ⟨o.V, fun q => by rw [o.eL]; exact h.eL q, fun q => by rw [o.eB]; exact h.eB q, fun q => by rw [o.eR, h.eR, cnt_app]⟩
theorem RtZ : Rt gZ [0] := ⟨gZ_val, fun _ => rfl, fun _ => rfl, fun q => by
  show (0 : Int) = cnt [0] q
  unfold cnt
  by_cases h : q = 0
  · simp [h]
  · simp [h, Ne.symm h]⟩
theorem gZ_ok : okS 1 (mkG gZ) := ⟨sup_none _, (fun q x h => by cases h), sup_none _, (fun q x h => by cases h)⟩
/-- which root an action names -/
def pk (a : Int) (n : Nat) : Nat := (a % 2 ^ 10).toNat % n
theorem pk_rem (a : Int) {n : Nat} : (a % 2 ^ 10).tmod (n : Int) = ((pk a n : Nat) : Int) := by
  have h := Int.emod_nonneg a (show (2 : Int) ^ 10 ≠ 0 by decide)
  obtain ⟨k, hk⟩ : ∃ k : Nat, a % 2 ^ 10 = k := ⟨_, (Int.toNat_of_nonneg h).symm⟩
  unfold pk
  rw [hk]
  rfl
theorem pk_lt (a : Int) {n : Nat} (h : 0 < n) : pk a n < n := Nat.mod_lt _ h
theorem lightS {l : List ActM} {m : Int} {x : ActM} (h : lightA l m = true) (hx : x ∈ l) : x.s.length ≤ 100 := by
  unfold lightA at h
  simp only [Bool.and_eq_true, List.all_eq_true] at h
  have := h.2 x hx
  unfold lightA1 at this
  simp only [Bool.and_eq_true, decide_eq_true_eq] at this
  exact this.1.1.1
theorem lightL {l : List ActM} {m : Int} (h : lightA l m = true) : (l.length : Int) ≤ m := by
  unfold lightA at h
  simp only [Bool.and_eq_true, decide_eq_true_eq] at h
  exact h.1
theorem setZ : setE (mkG gZ) 0 5 [120] = (2, 0) := by decide +kernel
theorem getZ (i : Nat) : getS (mkG gZ) 0 i = [] := by
  rw [getS_dv, g0_kat gZ_val, g0_kat gZ_val, dv_0 gZ_val]

theorem eq_Block (a b : Bk) (w : World) : (Op.equal 122 (.agg [Str a.1, I a.2].toArray) (.agg [Str b.1, I b.2].toArray)).run Try.prog w = .ok (decide (a = b)) w := by
  have h1 := run_eqS (P := Try.prog) (w := w) (a := a.1) (b := b.1) 9998 Try.underlying9
  have h2 := run_eqI (P := Try.prog) (w := w) (a := a.2) (b := b.2) 9998 Try.underlying3
  show (Op.equalIn (9999 + 1) _ _ _).run _ _ = _
  unfold Op.equalIn
  simp [underlying, program, Sem.run, Try.underlying122, Try.stoodInHeld122, Go.part, Try.isAgg9, Try.isAgg3, h1, h2]
  obtain ⟨a1, a2⟩ := a
  obtain ⟨b1, b2⟩ := b
  by_cases e1 : a1 = b1 <;> by_cases e2 : a2 = b2 <;> simp [e1, e2]
theorem eq_NodeS (n : Nd) (w : World) : (Op.equal 126 (.agg (ndC n).toArray) (.agg (ndC n).toArray)).run Try.prog w = .ok true w := by
  have h1 : (Op.equalIn 9999 124 (.agg (kdC n).toArray) (.agg (kdC n).toArray)).run Try.prog w = .ok true w := by
    have h := fun x : Int => run_eqI (P := Try.prog) (w := w) (a := x) (b := x) 9997 Try.underlying3
    show (Op.equalIn (9998 + 1) _ _ _).run _ _ = _
    unfold Op.equalIn
    simp [underlying, program, Sem.run, Try.underlying124, Try.sizeOf3, List.range', Std.Legacy.Range.forIn_eq_forIn_range', Std.Legacy.Range.size, Go.part, Try.isAgg3, h]
  have h2 := run_eqI (P := Try.prog) (w := w) (a := n.refs) (b := n.refs) 9998 Try.underlying3
  show (Op.equalIn (9999 + 1) _ _ _).run _ _ = _
  unfold Op.equalIn
  simp [underlying, program, Sem.run, Try.underlying126, Try.stoodInHeld126, Go.part, Try.isAgg124, Try.isAgg3, Try.sizeOf124, h1, h2]
theorem xC_ldB {X : XM} {k o : Nat} {T : TypeId} {f : Nat × Nat} (hk : k < 41) (ho : o = k * 2) : ∀ j v, ([Str (X.B k).1, I (X.B k).2] : List Value)[j]? = some v → objCell (.cells (xC X) T f) (o + j) = some v := fun j v h => by
  match j, h with
  | 0, h => simp at h; subst h; exact xC_data hk (by omega)
  | 1, h => simp at h; subst h; exact xC_refs hk (by omega)
  | j + 2, h => simp at h
theorem xC_ldN {X : XM} {k o : Nat} {T : TypeId} {f : Nat × Nat} (hk : k < 25) (ho : o = 82 + k * 5) : ∀ j v, (ndC (X.N k))[j]? = some v → objCell (.cells (xC X) T f) (o + j) = some v := fun j v h => by
  have hj : j < 5 := by have := (List.getElem?_eq_some_iff.1 h).1; simpa using this
  exact xC_nd (j := j) hk hj (by omega) h
theorem bldIx (w : World) : (Instr.build 129 #[]).run Try.prog w = .ok (.agg (xC (xS (mkG gZ)))) w := by
  have e : (Instr.build 129 #[]).run Try.prog w = (zeroValue 129).run Try.prog w := by
    simp [Instr.build, Try.zeroValue129, Try.runUnderlying129, Instr.fill, cells_agg]
  rw [e, Try.zeroValue129]
  have e2 : Try.zeroCells129 = xC xZ := by kernel_rfl
  rw [e2]
  rfl
theorem setE_nn (S : SI) (root : Int) (at_ : Nat) (d : Bytes) : 0 ≤ (setE S root at_ d).2 := by
  unfold setE
  simp only
  split
  · exact (blockE_sm S d).2.2
  · split
    · exact nodeE_nn _ _
    · split
      · exact nodeE_nn _ _
      · simp
theorem cnt_erase {l : List Int} {k : Nat} {x : Int} (h : l[k]? = some x) (q : Int) : cnt (l.take k ++ l.drop (k + 1)) q = cnt l q - if q = x ∧ x ≠ 0 then 1 else 0 := by
  have hl : l = l.take k ++ x :: l.drop (k + 1) := by
    obtain ⟨hk, e⟩ := List.getElem?_eq_some_iff.1 h
    rw [← e, ← List.drop_eq_getElem_cons hk, List.take_append_drop]
  have h1 : cnt l q = cnt (l.take k ++ x :: l.drop (k + 1)) q := by rw [← hl]
  rw [h1]
  unfold cnt
  by_cases hq : q = 0
  · subst hq
    rw [if_pos rfl, if_pos rfl, if_neg (fun h => h.2 h.1.symm)]
    rfl
  · rw [if_neg hq, if_neg hq, List.count_append, List.count_append, List.count_cons]
    by_cases hx : x = q
    · subst hx; simp [hq]; omega
    · simp [hx, Ne.symm hx]
theorem len_erase {l : List Int} {k : Nat} (h : k < l.length) : (l.take k ++ l.drop (k + 1)).length = l.length - 1 := by simp; omega
theorem RtShare {G G' : Gh} {roots : List Int} {q : Int} (h : Rt G roots) (V : Val G') (e1 : G'.eL = G.eL) (e2 : G'.eB = G.eB) (e3 : ∀ p, G'.eR p = G.eR p + if p = q ∧ q ≠ 0 then 1 else 0) : Rt G' (roots ++ [q]) :=
  ⟨V, fun p => by rw [e1]; exact h.eL p, fun p => by rw [e2]; exact h.eB p, fun p => by rw [e3, h.eR, cnt_app]⟩
theorem RtFree {G G' : Gh} {roots : List Int} {q : Int} {k : Nat} (h : Rt G roots) (hk : roots[k]? = some q) (V : Val G') (e : LessR G G') (e3 : ∀ p, G'.eR p = G.eR p - if p = q ∧ q ≠ 0 then 1 else 0) : Rt G' (roots.take k ++ roots.drop (k + 1)) :=
  ⟨V, fun p => by rw [e.eL]; exact h.eL p, fun p => by rw [e.eB]; exact h.eB p, fun p => by rw [e3, h.eR, cnt_erase hk]⟩
theorem RtHeld {G : Gh} {roots : List Int} {q : Int} (h : Rt G roots) (hq : q ∈ roots) : q ≠ 0 → 1 ≤ G.eR q := fun h0 => by rw [h.eR]; exact cnt_mem hq h0
theorem rows_erase (l : List Int) (k : Nat) : [] ++ ((intR l).drop 0).take k ++ ((intR l).drop (k + 1)).take (l.length - (k + 1)) = intR (l.take k ++ l.drop (k + 1)) := by
  rw [List.take_of_length_le (l := (intR l).drop (k + 1)) (by simp [intR])]
  simp [intR, List.map_take, List.map_drop]
def oldS : Bytes := [111, 108, 100]

theorem ct_L_indexes  (F : List HProp) : Ct Try.prog 87 [] ([] ++ F) (R1 (Bo true) F) := by
  show Ct Try.prog 87 [] (F) _
  refine Ct.of Try.func87 rfl 28 Try.ntmps87 (by simp) fun w0 => ?_
  refine g_seq ?_
  refine g_reg ?_
  refine g_v (v_assign rfl) rfl ?_
  refine g_nil ?_
  refine g_seq ?_
  refine g_reg ?_
  refine g_l (l_call (Pre := []) Try.call88 rfl (ct_index_New)) rfl ?_
  rintro _ _ ⟨b, rfl, rfl⟩
  rw [← gZ_mk]
  refine g_v (v_assign rfl) rfl ?_
  refine g_nil ?_
  refine g_seq ?_
  refine g_reg ?_
  refine g_v (v_move rfl) rfl ?_
  refine g_l (l_call (Pre := [ixl b (mkG gZ)]) Try.call89 rfl (ct_index_Index_Set b (mkG gZ) 0 5 [120] 1 gZ_ok (by decide) (by decide) (by decide) (rt_kidr gZ_val (.inl rfl)))) rfl ?_
  rintro _ _ ⟨rfl, rfl⟩
  obtain ⟨G, hS, hO⟩ := set_mk gZ_val (.inl rfl) (by decide) setZ
  have hok : okS 200 (mkG G) := RtOk (RtSet RtZ hO) (by simp)
  have hg5 : getS (mkG G) 2 5 = [120] := hO.get 5 (by decide)
  have hg4 : getS (mkG G) 2 4 = [] := (hO.get 4 (by decide)).trans (getZ 4)
  rw [hS, setZ]
  refine g_v (v_move rfl) rfl ?_
  refine g_v (v_extract (v := I 2) rfl rfl) rfl ?_
  refine g_v (v_extract (v := errV 0) rfl rfl) rfl ?_
  refine g_v (v_assign rfl) rfl ?_
  refine g_v (v_assign rfl) rfl ?_
  refine g_nil ?_
  refine g_seq ?_
  refine g_reg ?_
  refine g_v (v_move rfl) rfl ?_
  refine g_l (l_call (Pre := []) Try.call14 rfl (ct_L_same (0) (0) (by decide))) rfl ?_
  rintro _ _ ⟨rfl, rfl⟩
  refine g_v (v_move rfl) rfl ?_
  refine g_gv1 rfl rfl (by simp) (v_move rfl) rfl ?_
  refine g_gv1 rfl rfl (by simp) (v_gtr rfl rfl) rfl ?_
  refine g_v (v_and rfl rfl) rfl ?_
  refine g_v (v_move rfl) rfl ?_
  refine g_gv1 rfl rfl (by simp) (v_move rfl) rfl ?_
  refine g_gv1 rfl rfl (by simp) (v_move rfl) rfl ?_
  refine g_gl rfl rfl (by simp) (l_call (Pre := [ixl b (mkG G)]) Try.call97 rfl (ct_index_Index_Get b (mkG G) 2 5 200 hok (by decide) (by decide))) rfl ?_
  rintro _ _ ⟨rfl, rfl⟩
  rw [hg5]
  refine g_gv1 rfl rfl (by simp) (v_seql rfl rfl) rfl ?_
  refine g_v (v_and rfl rfl) rfl ?_
  refine g_v (v_move rfl) rfl ?_
  refine g_gv1 rfl rfl (by simp) (v_move rfl) rfl ?_
  refine g_gv1 rfl rfl (by simp) (v_move rfl) rfl ?_
  refine g_gl rfl rfl (by simp) (l_call (Pre := [ixl b (mkG G)]) Try.call97 rfl (ct_index_Index_Get b (mkG G) 2 4 200 hok (by decide) (by decide))) rfl ?_
  rintro _ _ ⟨rfl, rfl⟩
  rw [hg4]
  refine g_gv1 rfl rfl (by simp) (v_seql rfl rfl) rfl ?_
  refine g_v (v_and rfl rfl) rfl ?_
  refine g_v (v_assign rfl) rfl ?_
  refine g_nil ?_
  refine g_ret1 rfl rfl ?_
  show Bo _ = Bo true
  simp

theorem ct_L_asIndex (b b2 : Nat) (S : SI) (m : Int) (hok : okS m S) (hm : m ≤ 1000000) (F : List HProp) : Ct Try.prog 96 [ptr b 0, ptr b2 0] ([ixl b S, ixr b2 (xS S)] ++ F) (R1 (Bo true) (ixl b S :: ixr b2 (xS S) :: F)) := by
  show Ct Try.prog 96 [ptr b 0, ptr b2 0] (ixl b S :: ixr b2 (xS S) :: F) _
  refine Ct.of Try.func96 rfl 83 Try.ntmps96 (by simp) fun w0 => ?_
  refine g_openX b S ?_
  intro p r
  refine g_seq ?_
  refine g_reg ?_
  refine g_v (v_assign rfl) rfl ?_
  refine g_nil ?_
  refine g_seq ?_
  refine g_seq ?_
  refine g_reg ?_
  refine g_v (v_move rfl) rfl ?_
  refine g_v (v_nilCheck rfl) rfl ?_
  refine g_v (v_fieldAddr 0 Try.underlying215 rfl rfl Try.sizeOf118 (by decide) rfl) rfl ?_
  refine g_v (v_load (v := ptr p 0) Try.isAgg118 rfl rfl) rfl ?_
  refine g_l (l_call (Pre := [plb p S.B]) Try.call85 rfl (ct_pool_Numbers p S.B)) rfl ?_
  rintro _ _ ⟨s13, c13, rfl, rfl⟩
  refine g_freeze s13 ?_
  refine g_v (v_move rfl) rfl ?_
  refine g_l (l_call (Pre := [ixr b2 (xS S)]) Try.call86 rfl (ct_R_Blocks b2 (xS S) (fun k _ => xS_nn hok k))) rfl ?_
  rintro _ _ ⟨s15, c15, rfl, rfl⟩
  rw [bt_xS hok]
  refine g_freeze s15 ?_
  refine g_shutX p r b S (.refl _) ?_
  refine g_l (l_call (Pre := [roL 1 s13 (intR (ids 40 S.B)), roL 1 s15 (intR (ids 40 S.B))]) Try.call84 rfl (ct_R_SameNumbers (ids 40 S.B) (ids 40 S.B) s13 s15 c13 c15 (Nat.le_trans (ids_len_le 40 _) (by decide)))) rfl ?_
  rintro _ _ ⟨rfl, rfl⟩
  refine g_v (v_not rfl) rfl ?_
  refine g_v (v_move rfl) rfl ?_
  refine g_gv1 rfl rfl (by simp) (v_move rfl) rfl ?_
  refine g_gl rfl rfl (by simp) (l_call (Pre := [ixl b S]) Try.call164 rfl (ct_index_Numbers b S)) rfl ?_
  rintro _ _ ⟨s20, c20, rfl, rfl⟩
  refine g_freeze s20 ?_
  refine g_gv1 rfl rfl (by simp) (v_move rfl) rfl ?_
  refine g_gl rfl rfl (by simp) (l_call (Pre := [ixr b2 (xS S)]) Try.call165 rfl (ct_R_Nodes b2 S m hok)) rfl ?_
  rintro _ _ ⟨s22, c22, rfl, rfl⟩
  refine g_freeze s22 ?_
  refine g_gl rfl rfl (by simp) (l_call (Pre := [roL 1 s20 (intR (ids 24 S.N)), roL 1 s22 (intR (ids 24 S.N))]) Try.call84 rfl (ct_R_SameNumbers (ids 24 S.N) (ids 24 S.N) s20 s22 c20 c22 (Nat.le_trans (ids_len_le 24 _) (by decide)))) rfl ?_
  rintro _ _ ⟨rfl, rfl⟩
  refine g_gv1 rfl rfl (by simp) (v_not rfl) rfl ?_
  refine g_v (v_or rfl rfl) rfl ?_
  refine g_nil ?_
  refine g_cond rfl (fun h25 => ?_) (fun h25 => ?_)
  · simp at h25
  · skip
    refine g_skip ?_
    refine g_seq ?_
    refine g_reg ?_
    refine g_v (v_move rfl) rfl ?_
    refine g_l (l_call (Pre := [ixr b2 (xS S)]) Try.call86 rfl (ct_R_Blocks b2 (xS S) (fun k _ => xS_nn hok k))) rfl ?_
    rintro _ _ ⟨s27, c27, rfl, rfl⟩
    rw [bt_xS hok]
    refine g_freeze s27 ?_
    refine g_v (v_assign rfl) rfl ?_
    refine g_nil ?_
    refine g_seq ?_
    refine g_seq ?_
    refine g_openX b S ?_
    intro p r
    refine g_openP p S.B ?_
    intro r2
    refine g_reg ?_
    refine g_v (v_assign rfl) rfl ?_
    refine g_nil ?_
    refine g_block ?_
    refine g_loop (α := Nat) (fun k => k ≤ (ids 40 S.B).length) (fun k => U [(0, ptr b 0), (1, ptr b2 0), (5, sl s27 (ids 40 S.B).length c27), (6, I k)]) (fun k => roL 1 s27 (intR (ids 40 S.B)) :: pt b (.cells #[ptr p 0, .map (some r)] 215 (0, 0)) :: pt p (.cells #[.map (some r2)] 137 (0, 0)) :: mp r2 (tb encB 40 S.B) :: mp r (tb encN 24 S.N) :: ixr b2 (xS S) :: F) (fun k => (ids 40 S.B).length - k) 0 (by simp) [0, 1, 5, 6] rfl rfl ?_
    intro k hk
    refine g_seq ?_
    refine g_seq ?_
    refine g_reg ?_
    refine g_v (v_move rfl) rfl ?_
    refine g_v (v_move rfl) rfl ?_
    refine g_v (v_len Try.underlying90 rfl) rfl ?_
    refine g_v (v_lss rfl rfl) rfl ?_
    refine g_nil ?_
    refine g_cond rfl (fun h31 => ?_) (fun h31 => ?_)
    · have hil := ids_len_le 40 S.B
      have hki : k < (ids 40 S.B).length := by simpa using h31
      obtain ⟨q, hq⟩ : ∃ q, (ids 40 S.B)[k]? = some q := ⟨_, List.getElem?_eq_getElem hki⟩
      obtain ⟨hqr, hqs⟩ := mem_ids.1 (List.mem_of_getElem? hq)
      obtain ⟨y, hy⟩ := Option.isSome_iff_exists.1 hqs
      have hlk : (lk (tb encB 40 S.B) q).getD (.agg #[Str [], I 0]) = encB ((xS S).B q.toNat) := by rw [lkB hok.1, xS_B (by omega) hy, hy]; rfl
      refine g_skip ?_
      refine g_seq ?_
      refine g_block ?_
      refine g_seq ?_
      refine g_drawL [(0, false), (1, false), (2, false), (3, false), (4, false), (5, false), (6, false), (7, false), (8, false), (9, false), (10, false), (11, false), (12, false), (13, false), (14, false), (15, false), (16, false), (17, false), (18, false), (19, false), (20, false), (21, false)] (by kernel_rfl) (by kernel_rfl) rfl (by kernel_rfl) ?_
      refine d_v rfl (v_move rfl) rfl ?_
      refine d_v rfl (v_nilCheck rfl) rfl ?_
      refine d_v rfl (v_fieldAddr 0 Try.underlying215 rfl rfl Try.sizeOf118 (by decide) rfl) rfl ?_
      refine d_v rfl (v_load (v := ptr p 0) Try.isAgg118 rfl rfl) rfl ?_
      refine d_v rfl (v_nilCheck rfl) rfl ?_
      refine d_v rfl (v_fieldAddr 0 Try.underlying137 rfl rfl Try.sizeOf135 (by decide) rfl) rfl ?_
      refine d_v rfl (v_load (v := .map (some r2)) Try.isAgg135 rfl rfl) rfl ?_
      refine d_v rfl (v_move rfl) rfl ?_
      refine d_v rfl (v_move rfl) rfl ?_
      refine d_v rfl (v_idxS k Try.underlying90 Try.sizeOf3 rfl rfl rfl hki (by rw [intR_len]; exact hki)) rfl ?_
      refine d_v rfl (v_loadS0 (v := I q) Try.isAgg3 rfl (intR_at hq) rfl) rfl ?_
      refine d_v rfl (v_lookup (v := encB ((xS S).B q.toNat)) Try.underlying135 Try.underlying3 Try.zeroValue122 rfl rfl hlk) rfl ?_
      refine d_v rfl (v_move rfl) rfl ?_
      refine d_v rfl (v_move rfl) rfl ?_
      refine d_v rfl (v_move rfl) rfl ?_
      refine d_v rfl (v_idxS k Try.underlying90 Try.sizeOf3 rfl rfl rfl hki (by rw [intR_len]; exact hki)) rfl ?_
      refine d_v rfl (v_loadS0 (v := I q) Try.isAgg3 rfl (intR_at hq) rfl) rfl ?_
      refine d_v rfl (v_nilCheck rfl) rfl ?_
      refine d_v rfl (v_fieldAddr 0 Try.underlying129 rfl rfl Try.sizeOf123 (by decide) rfl) rfl ?_
      refine d_v rfl (v_idxA q.toNat Try.underlying123 Try.sizeOf122 rfl rfl (by omega) (by omega)) rfl ?_
      refine d_v rfl (v_loadA (vs := [Str ((xS S).B q.toNat).1, I ((xS S).B q.toNat).2]) Try.isAgg122 Try.sizeOf122 rfl rfl (xC_ldB (by omega) (by omega))) rfl ?_
      refine d_v rfl (v_aneq Try.eqGuardType122 rfl rfl (eq_Block ((xS S).B q.toNat) ((xS S).B q.toNat))) rfl ?_
      refine d_nil ?_
      refine g_cond rfl (fun h55 => ?_) (fun h55 => ?_)
      · simp at h55
      · skip
        refine g_skip ?_
        refine g_blk ?_
        refine g_reg ?_
        refine g_v (v_move rfl) rfl ?_
        refine g_v (v_add rfl rfl (w64 (by omega))) rfl ?_
        refine g_v (v_assign rfl) rfl ?_
        refine g_nil ?_
        exact g_again (k + 1) (by omega) (by omega) [0, 1, 5, 6] rfl rfl
    · skip
      refine g_exit rfl ?_
      refine g_seq ?_
      refine g_reg ?_
      refine g_v (v_move rfl) rfl ?_
      refine g_l (l_call (Pre := [ixr b2 (xS S)]) Try.call165 rfl (ct_R_Nodes b2 S m hok)) rfl ?_
      rintro _ _ ⟨s57, c57, rfl, rfl⟩
      refine g_freeze s57 ?_
      refine g_v (v_assign rfl) rfl ?_
      refine g_nil ?_
      refine g_seq ?_
      refine g_seq ?_
      refine g_shutP r2 p S.B (.refl _) ?_
      refine g_reg ?_
      refine g_v (v_assign rfl) rfl ?_
      refine g_nil ?_
      refine g_block ?_
      refine g_loop (α := Nat) (fun k => k ≤ (ids 24 S.N).length) (fun k => U [(0, ptr b 0), (1, ptr b2 0), (7, sl s57 (ids 24 S.N).length c57), (8, I k)]) (fun k => roL 1 s57 (intR (ids 24 S.N)) :: pt b (.cells #[ptr p 0, .map (some r)] 215 (0, 0)) :: plb p S.B :: mp r (tb encN 24 S.N) :: ixr b2 (xS S) :: F) (fun k => (ids 24 S.N).length - k) 0 (by simp) [0, 1, 7, 8] rfl rfl ?_
      intro k hk
      refine g_seq ?_
      refine g_seq ?_
      refine g_reg ?_
      refine g_v (v_move rfl) rfl ?_
      refine g_v (v_move rfl) rfl ?_
      refine g_v (v_len Try.underlying90 rfl) rfl ?_
      refine g_v (v_lss rfl rfl) rfl ?_
      refine g_nil ?_
      refine g_cond rfl (fun h61 => ?_) (fun h61 => ?_)
      · have hil := ids_len_le 24 S.N
        have hki : k < (ids 24 S.N).length := by simpa using h61
        obtain ⟨q, hq⟩ : ∃ q, (ids 24 S.N)[k]? = some q := ⟨_, List.getElem?_eq_getElem hki⟩
        obtain ⟨hqr, hqs⟩ := mem_ids.1 (List.mem_of_getElem? hq)
        refine g_skip ?_
        refine g_seq ?_
        refine g_block ?_
        refine g_seq ?_
        refine g_drawL [(0, false), (1, false), (2, false), (3, false), (4, false), (5, false), (6, false), (7, false), (8, false), (9, false), (10, false), (11, false), (12, false), (13, false), (14, false), (15, false), (16, false), (17, false), (18, false)] (by kernel_rfl) (by kernel_rfl) rfl (by kernel_rfl) ?_
        refine d_v rfl (v_move rfl) rfl ?_
        refine d_v rfl (v_nilCheck rfl) rfl ?_
        refine d_v rfl (v_fieldAddr 1 Try.underlying215 rfl rfl Try.sizeOf213 (by decide) rfl) rfl ?_
        refine d_v rfl (v_load (v := .map (some r)) Try.isAgg213 rfl rfl) rfl ?_
        refine d_v rfl (v_move rfl) rfl ?_
        refine d_v rfl (v_move rfl) rfl ?_
        refine d_v rfl (v_idxS k Try.underlying90 Try.sizeOf3 rfl rfl rfl hki (by rw [intR_len]; exact hki)) rfl ?_
        refine d_v rfl (v_loadS0 (v := I q) Try.isAgg3 rfl (intR_at hq) rfl) rfl ?_
        refine d_v rfl (v_lookup (v := encN (gN S.N q)) Try.underlying213 Try.underlying3 Try.zeroValue126 rfl rfl (lkN hok.2.2.1 _)) rfl ?_
        refine d_v rfl (v_move rfl) rfl ?_
        refine d_v rfl (v_move rfl) rfl ?_
        refine d_v rfl (v_move rfl) rfl ?_
        refine d_v rfl (v_idxS k Try.underlying90 Try.sizeOf3 rfl rfl rfl hki (by rw [intR_len]; exact hki)) rfl ?_
        refine d_v rfl (v_loadS0 (v := I q) Try.isAgg3 rfl (intR_at hq) rfl) rfl ?_
        refine d_v rfl (v_nilCheck rfl) rfl ?_
        refine d_v rfl (v_fieldAddr 82 Try.underlying129 rfl rfl Try.sizeOf127 (by decide) rfl) rfl ?_
        refine d_v rfl (v_idxA q.toNat Try.underlying127 Try.sizeOf126 rfl rfl (by omega) (by omega)) rfl ?_
        refine d_v rfl (v_loadA (vs := ndC (gN S.N q)) Try.isAgg126 Try.sizeOf126 rfl rfl (by rw [← xS_gN (by omega)]; exact xC_ldN (by omega) (by omega))) rfl ?_
        refine d_v rfl (v_aneq Try.eqGuardType126 rfl rfl (eq_NodeS (gN S.N q))) rfl ?_
        refine d_nil ?_
        refine g_cond rfl (fun h82 => ?_) (fun h82 => ?_)
        · simp at h82
        · skip
          refine g_skip ?_
          refine g_blk ?_
          refine g_reg ?_
          refine g_v (v_move rfl) rfl ?_
          refine g_v (v_add rfl rfl (w64 (by omega))) rfl ?_
          refine g_v (v_assign rfl) rfl ?_
          refine g_nil ?_
          exact g_again (k + 1) (by omega) (by omega) [0, 1, 7, 8] rfl rfl
      · refine g_shutX p r b S (.refl _) ?_
        refine g_exit rfl ?_
        refine g_seq ?_
        refine g_reg ?_
        refine g_v (v_assign rfl) rfl ?_
        refine g_nil ?_
        refine g_ret1 rfl rfl ?_
        exact rfl

theorem ct_L_IndexSays (l : List ActM) (f : Nat → ActZ) (s : Option Addr) (cap : Nat) (hl : l.length ≤ 9223372036854775807) (hla : ∀ x ∈ l, x.puts.length ≤ 9223372036854775807 ∧ x.changes.length ≤ 9223372036854775807) (F : List HProp) : Ct Try.prog 9 [sl s l.length cap] ([acts s l f] ++ F) (R1 (Bo true) (acts s l f :: F)) := by
  show Ct Try.prog 9 [sl s l.length cap] (acts s l f :: F) _
  refine Ct.of Try.func9 rfl 203 Try.ntmps9 (by simp) fun w0 => ?_
  refine g_seq ?_
  refine g_reg ?_
  refine g_v (v_assign rfl) rfl ?_
  refine g_nil ?_
  refine g_seq ?_
  refine g_reg ?_
  refine g_l (l_call (Pre := []) Try.call87 rfl (ct_L_indexes)) rfl ?_
  rintro _ _ ⟨rfl, rfl⟩
  refine g_v (v_assign rfl) rfl ?_
  refine g_nil ?_
  refine g_seq ?_
  refine g_seq ?_
  refine g_reg ?_
  refine g_v (v_move rfl) rfl ?_
  refine g_v (v_not rfl) rfl ?_
  refine g_v (v_move rfl) rfl ?_
  refine g_gv1 rfl rfl rfl (v_move rfl) rfl ?_
  refine g_gl rfl rfl rfl (l_call (Pre := [acts s l f]) Try.call28 rfl (ct_L_LightActs l f s cap 60 hl hla)) rfl ?_
  rintro _ _ ⟨rfl, rfl⟩
  refine g_gv1 rfl rfl rfl (v_not rfl) rfl ?_
  refine g_v (v_or rfl rfl) rfl ?_
  refine g_nil ?_
  refine g_cond rfl (fun h25 => ?_) (fun h25 => ?_)
  · skip
    refine g_seq ?_
    refine g_reg ?_
    refine g_v (v_move rfl) rfl ?_
    refine g_v (v_assign rfl) rfl ?_
    refine g_nil ?_
    refine g_ret1 rfl rfl ?_
    exact rfl
  · have h25' : lightA l 60 = true := by simpa using h25
    have hll := lightL h25'
    refine g_skip ?_
    refine g_seq ?_
    refine g_reg ?_
    refine g_l (l_call (Pre := []) Try.call88 rfl (ct_index_New)) rfl ?_
    rintro _ _ ⟨p0, rfl, rfl⟩
    rw [← gZ_mk]
    refine g_v (v_assign rfl) rfl ?_
    refine g_nil ?_
    refine g_seq ?_
    refine g_reg ?_
    refine g_v (v_build rfl bldIx) rfl ?_
    refine g_l (l_box (xC (xS (mkG gZ))) rfl rfl) rfl ?_
    rintro _ _ ⟨b29, rfl, rfl⟩
    refine g_v (v_assign rfl) rfl ?_
    refine g_nil ?_
    refine g_seq ?_
    refine g_reg ?_
    refine g_l (l_buildSlice (intR [0]) Try.underlying90 Try.sizeOf3 Try.zeroValue3 rfl rfl rfl (by intro r hr; simp [intR] at hr; subst hr; rfl) (by decide) (by decide)) rfl ?_
    rintro _ _ ⟨b30, rfl, rfl⟩
    refine g_v (v_assign rfl) rfl ?_
    refine g_nil ?_
    refine g_seq ?_
    refine g_seq ?_
    refine g_reg ?_
    refine g_v (v_assign rfl) rfl ?_
    refine g_nil ?_
    refine g_block ?_
    refine g_loop (α := Nat × Nat × Gh × List Int × Option Addr × Nat) (fun z => z.1 ≤ l.length ∧ (0 < z.2.2.2.1.length ∧ z.2.2.2.1.length ≤ z.1 + 1) ∧ Rt z.2.2.1 z.2.2.2.1) (fun z => U [(0, sl s l.length cap), (4, ptr z.2.1 0), (5, ptr b29 0), (6, sl z.2.2.2.2.1 z.2.2.2.1.length z.2.2.2.2.2), (7, I z.1)]) (fun z => ixl z.2.1 (mkG z.2.2.1) :: ixr b29 (xS (mkG z.2.2.1)) :: owL 3 1 z.2.2.2.2.1 z.2.2.2.2.2 (intR z.2.2.2.1) :: acts s l f :: F) (fun z => l.length - z.1) (0, p0, gZ, [0], some ⟨b30, 0, none⟩, 1) ⟨by simp, by simp, RtZ⟩ [0, 4, 5, 6, 7] rfl rfl ?_
    rintro ⟨i, p, G, roots, s6, c6⟩ ⟨hi, hrl, hR⟩
    simp only [] at hi hrl hR ⊢
    refine g_seq ?_
    refine g_seq ?_
    refine g_reg ?_
    refine g_v (v_move rfl) rfl ?_
    refine g_v (v_move rfl) rfl ?_
    refine g_v (v_len Try.underlying39 rfl) rfl ?_
    refine g_v (v_lss rfl rfl) rfl ?_
    refine g_nil ?_
    refine g_cond rfl (fun h34 => ?_) (fun h34 => ?_)
    · simp at h34
      have hkn : i < l.length := by omega
      obtain ⟨x, hx⟩ : ∃ x, l[i]? = some x := ⟨_, List.getElem?_eq_getElem hkn⟩
      have hkr : i < (actR l f).length := by rw [actR_len]; exact hkn
      have hok := RtOk hR (m := 300) (by omega)
      have hpl := pk_lt x.a hrl.1
      obtain ⟨q, hqq⟩ : ∃ z0, roots[pk x.a roots.length]? = some z0 := ⟨_, List.getElem?_eq_getElem (pk_lt _ (by omega))⟩
      have hmq := List.mem_of_getElem? hqq
      have hxs : x.s.length ≤ 1000000 := Nat.le_trans (lightS h25' (List.mem_of_getElem? hx)) (by decide)
      refine g_skip ?_
      refine g_seq ?_
      refine g_block ?_
      refine g_seq ?_
      refine g_reg ?_
      refine g_v (v_move rfl) rfl ?_
      refine g_v (v_move rfl) rfl ?_
      refine g_v (v_idxS i Try.underlying39 Try.sizeOf52 rfl rfl rfl hkn hkr) rfl ?_
      refine g_v (v_loadAS (row := encAct x (f i)) Try.isAgg52 Try.sizeOf52 rfl (actR_at hx) rfl) rfl ?_
      refine g_l (l_alloc #[Str [], Str [], I 0, I 0, I 0, I 0, .int .u64 0, sl none 0 0, sl none 0 0] Try.zeroValue52) rfl ?_
      rintro _ _ ⟨b8, rfl, rfl⟩
      refine g_l0 (l_storeA (cs := #[Str [], Str [], I 0, I 0, I 0, I 0, .int .u64 0, sl none 0 0, sl none 0 0]) (vs := encAct x (f i)) (encAct x (f i)).toArray Try.sizeOf52 rfl rfl rfl rfl (by simp) (splice_all rfl)) ?_
      rintro _ _ rfl
      refine g_nil ?_
      refine g_seq ?_
      refine g_reg ?_
      refine g_v (v_fieldAddr 2 Try.underlying52 rfl rfl Try.sizeOf3 (by decide) rfl) rfl ?_
      refine g_v (v_load (v := I x.a) Try.isAgg3 rfl rfl) rfl ?_
      refine g_v (v_mask 10 rfl (by decide) (by decide)) rfl ?_
      refine g_v (v_move rfl) rfl ?_
      refine g_v (v_len Try.underlying90 rfl) rfl ?_
      refine g_v (v_rem (r := (((pk x.a roots.length) : Nat) : Int)) rfl rfl (by omega) (pk_rem _)) rfl ?_
      refine g_v (v_assign rfl) rfl ?_
      refine g_nil ?_
      refine g_seq ?_
      refine g_seq ?_
      refine g_reg ?_
      refine g_v (v_fieldAddr 3 Try.underlying52 rfl rfl Try.sizeOf3 (by decide) rfl) rfl ?_
      refine g_v (v_load (v := I x.b) Try.isAgg3 rfl rfl) rfl ?_
      refine g_v (v_lss rfl rfl) rfl ?_
      refine g_v (v_move rfl) rfl ?_
      by_cases hb0 : x.b < 0
      · have hb : decide (x.b < 0) = true := decide_eq_true hb0
        refine g_no rfl rfl (by rw [hb]; rfl) rfl ?_
        refine g_no rfl rfl (by rw [hb]; rfl) rfl ?_
        refine g_no rfl rfl (by rw [hb]; rfl) rfl ?_
        refine g_v (v_pk1 rfl hb rfl) rfl ?_
        refine g_nil ?_
        refine g_true rfl ?_
        refine g_seq ?_
        refine g_reg ?_
        refine g_v (v_assign rfl) rfl ?_
        refine g_nil ?_
        refine g_ret1 rfl rfl ?_
        exact rfl
      · have hb : decide (x.b < 0) = false := decide_eq_false hb0
        refine g_gv1 rfl rfl hb (v_fieldAddr 3 Try.underlying52 rfl rfl Try.sizeOf3 (by decide) rfl) rfl ?_
        refine g_gv1 rfl rfl hb (v_load (v := I x.b) Try.isAgg3 rfl rfl) rfl ?_
        refine g_gv1 rfl rfl hb (v_gtr rfl rfl) rfl ?_
        refine g_v (v_or rfl rfl) rfl ?_
        refine g_nil ?_
        refine g_cond rfl (fun h54 => ?_) (fun h54 => ?_)
        · skip
          refine g_seq ?_
          refine g_reg ?_
          refine g_v (v_assign rfl) rfl ?_
          refine g_nil ?_
          refine g_ret1 rfl rfl ?_
          exact rfl
        · simp [hb0] at h54
          have hbn : (x.b.toNat : Int) = x.b := by omega
          refine g_skip ?_
          refine g_seq ?_
          refine g_seq ?_
          refine g_reg ?_
          refine g_v (v_fieldAddr 0 Try.underlying52 rfl rfl Try.sizeOf9 (by decide) rfl) rfl ?_
          refine g_v (v_load (v := Str x.kind) Try.isAgg9 rfl rfl) rfl ?_
          refine g_nil ?_
          refine g_block ?_
          refine g_seq ?_
          refine g_reg ?_
          refine g_v (v_seql rfl rfl) rfl ?_
          refine g_v (v_assign rfl) rfl ?_
          refine g_nil ?_
          refine g_cut (α := Nat × Gh × List Int × Option Addr × Nat) (fun z => (0 < z.2.2.1.length ∧ z.2.2.1.length ≤ i + 2) ∧ Rt z.2.1 z.2.2.1) (fun z => U [(0, sl s l.length cap), (4, ptr z.1 0), (5, ptr b29 0), (6, sl z.2.2.2.1 z.2.2.1.length z.2.2.2.2), (7, I i), (8, ptr b8 0)]) (fun z => ixl z.1 (mkG z.2.1) :: ixr b29 (xS (mkG z.2.1)) :: owL 3 1 z.2.2.2.1 z.2.2.2.2 (intR z.2.2.1) :: pt b8 (.cells (encAct x (f i)).toArray 52 (0, 0)) :: acts s l f :: F) ?_ ?_
          · skip
            refine g_cond rfl (fun h71 => ?_) (fun h71 => ?_)
            · skip
              refine g_seq ?_
              refine g_draw (Lf := [owL 3 1 s6 c6 (intR roots), pt b8 (.cells (encAct x (f i)).toArray 52 (0, 0))]) [(0, false), (1, false), (2, false), (3, false), (4, false), (5, false), (6, false), (7, false), (8, false), (9, true), (10, false), (11, false), (12, false), (13, false), (14, false)] (by kernel_rfl) (by kernel_rfl) rfl (by kernel_rfl) ?_
              refine d_v rfl (v_move rfl) rfl ?_
              refine d_v rfl (v_move rfl) rfl ?_
              refine d_v rfl (v_move rfl) rfl ?_
              refine d_v rfl (v_idxS (pk x.a roots.length) Try.underlying90 Try.sizeOf3 rfl rfl rfl (pk_lt _ (by omega)) (by rw [intR_len]; exact (pk_lt _ (by omega)))) rfl ?_
              refine d_v rfl (v_loadS0 (v := I q) Try.isAgg3 rfl (intR_at hqq) rfl) rfl ?_
              refine d_v rfl (v_fieldAddr 3 Try.underlying52 rfl rfl Try.sizeOf3 (by decide) rfl) rfl ?_
              refine d_v rfl (v_load (v := I ((x.b.toNat : Nat) : Int)) Try.isAgg3 rfl (by rw [hbn]; rfl)) rfl ?_
              refine d_v rfl (v_fieldAddr 1 Try.underlying52 rfl rfl Try.sizeOf9 (by decide) rfl) rfl ?_
              refine d_v rfl (v_load (v := Str x.s) Try.isAgg9 rfl rfl) rfl ?_
              refine d_l rfl (l_call (Pre := [ixl p (mkG G)]) Try.call89 rfl (ct_index_Index_Set p (mkG G) q x.b.toNat x.s 300 hok (by decide) (by omega) hxs (RtKid hR hmq))) rfl ?_
              rintro _ _ ⟨rfl, rfl⟩
              refine d_v rfl (v_move rfl) rfl ?_
              refine d_v rfl (v_extract (v := I (setE (mkG G) q x.b.toNat x.s).1) rfl rfl) rfl ?_
              refine d_v rfl (v_extract (v := errV (setE (mkG G) q x.b.toNat x.s).2) rfl rfl) rfl ?_
              refine d_v rfl (v_assign rfl) rfl ?_
              refine d_v rfl (v_assign rfl) rfl ?_
              refine d_nil ?_
              refine g_seq ?_
              refine g_draw (Lf := [owL 3 1 s6 c6 (intR roots), pt b8 (.cells (encAct x (f i)).toArray 52 (0, 0))]) [(0, false), (1, false), (2, false), (3, false), (4, false), (5, false), (6, false), (7, false), (8, false), (9, true), (10, false), (11, false), (12, false), (13, false), (14, false)] (by kernel_rfl) (by kernel_rfl) rfl (by kernel_rfl) ?_
              refine d_v rfl (v_move rfl) rfl ?_
              refine d_v rfl (v_move rfl) rfl ?_
              refine d_v rfl (v_move rfl) rfl ?_
              refine d_v rfl (v_idxS (pk x.a roots.length) Try.underlying90 Try.sizeOf3 rfl rfl rfl (pk_lt _ (by omega)) (by rw [intR_len]; exact (pk_lt _ (by omega)))) rfl ?_
              refine d_v rfl (v_loadS0 (v := I q) Try.isAgg3 rfl (intR_at hqq) rfl) rfl ?_
              refine d_v rfl (v_fieldAddr 3 Try.underlying52 rfl rfl Try.sizeOf3 (by decide) rfl) rfl ?_
              refine d_v rfl (v_load (v := I ((x.b.toNat : Nat) : Int)) Try.isAgg3 rfl (by rw [hbn]; rfl)) rfl ?_
              refine d_v rfl (v_fieldAddr 1 Try.underlying52 rfl rfl Try.sizeOf9 (by decide) rfl) rfl ?_
              refine d_v rfl (v_load (v := Str x.s) Try.isAgg9 rfl rfl) rfl ?_
              refine d_l rfl (l_call (Pre := [ixr b29 (xS (mkG G))]) Try.call90 rfl (ct_R_Set b29 (mkG G) q x.b.toNat x.s 300 hok (by decide) (by omega) hxs (gOkX_of hR.V (RtRt hR hmq)))) rfl ?_
              rintro _ _ ⟨rfl, rfl⟩
              refine d_v rfl (v_move rfl) rfl ?_
              refine d_v rfl (v_extract (v := I (setE (mkG G) q x.b.toNat x.s).1) rfl rfl) rfl ?_
              refine d_v rfl (v_extract (v := I (setE (mkG G) q x.b.toNat x.s).2) rfl rfl) rfl ?_
              refine d_v rfl (v_assign rfl) rfl ?_
              refine d_v rfl (v_assign rfl) rfl ?_
              refine d_nil ?_
              refine g_seq ?_
              refine g_seq ?_
              refine g_reg ?_
              refine g_v (v_move rfl) rfl ?_
              refine g_v (v_move rfl) rfl ?_
              refine g_v (v_neq rfl rfl) rfl ?_
              refine g_v (v_move rfl) rfl ?_
              refine g_gv1 rfl rfl (by simp) (v_move rfl) rfl ?_
              refine g_gv1 rfl rfl (by simp) (v_move rfl) rfl ?_
              refine g_gl rfl rfl (by simp) (l_call (Pre := []) Try.call14 rfl (ct_L_same ((setE (mkG G) q x.b.toNat x.s).2) ((setE (mkG G) q x.b.toNat x.s).2) (setE_nn _ _ _ _))) rfl ?_
              rintro _ _ ⟨rfl, rfl⟩
              refine g_gv1 rfl rfl (by simp) (v_not rfl) rfl ?_
              refine g_v (v_or rfl rfl) rfl ?_
              refine g_nil ?_
              refine g_cond rfl (fun h107 => ?_) (fun h107 => ?_)
              · simp at h107
              · skip
                refine g_skip ?_
                refine g_seq ?_
                refine g_seq ?_
                refine g_reg ?_
                refine g_v (v_move rfl) rfl ?_
                refine g_v (v_gtr rfl rfl) rfl ?_
                refine g_nil ?_
                refine g_cond rfl (fun h109 => ?_) (fun h109 => ?_)
                · skip
                  refine g_seq ?_
                  refine g_reg ?_
                  refine g_v (v_assign rfl) rfl ?_
                  refine g_nil ?_
                  refine g_ret1 rfl rfl ?_
                  exact rfl
                · simp at h109
                  refine g_skip ?_
                  refine g_reg ?_
                  refine g_v (v_move rfl) rfl ?_
                  refine g_v (v_move rfl) rfl ?_
                  refine g_l (l_buildSlice (intR [(setE (mkG G) q x.b.toNat x.s).1]) Try.underlying90 Try.sizeOf3 Try.zeroValue3 rfl rfl rfl (by intro r hr; simp [intR] at hr; subst hr; rfl) (by decide) (by decide)) rfl ?_
                  rintro _ _ ⟨b112, rfl, rfl⟩
                  refine g_l (l_append Try.underlying90 Try.sizeOf3 Try.zeroValue3 rfl Try.typeInfo3 (by decide) rfl rfl (intR_len _) rfl (by simp [intR]) (by intro r hr; simp [intR] at hr; subst hr; rfl) ⟨by omega, by decide, by decide⟩) rfl ?_
                  rintro _ _ ⟨s113, c113, rfl, rfl⟩
                  refine g_v (v_assign rfl) rfl ?_
                  refine g_nil ?_
                  obtain ⟨G', hS, hO⟩ := set_mk hR.V (RtRt hR hmq) (by omega : x.b.toNat < 16) (Prod.ext rfl (by have := setE_nn (mkG G) q x.b.toNat x.s; omega) : setE (mkG G) q x.b.toNat x.s = ((setE (mkG G) q x.b.toNat x.s).1, 0))
                  rw [hS, show intR roots ++ intR [(setE (mkG G) q x.b.toNat x.s).1] = intR (roots ++ [(setE (mkG G) q x.b.toNat x.s).1]) by simp [intR]]
                  exact g_here (p, G', roots ++ [(setE (mkG G) q x.b.toNat x.s).1], s113, c113) (⟨by simp; omega, RtSet hR hO⟩) [0, 4, 5, 6, 7, 8] rfl (by simp [U])
            · skip
              refine g_seq ?_
              refine g_reg ?_
              refine g_v (v_seql rfl rfl) rfl ?_
              refine g_v (v_assign rfl) rfl ?_
              refine g_nil ?_
              refine g_cond rfl (fun h114 => ?_) (fun h114 => ?_)
              · skip
                refine g_seq ?_
                refine g_seq ?_
                refine g_draw (Lf := [owL 3 1 s6 c6 (intR roots)]) [(0, false), (1, false), (2, false), (3, false), (4, false), (6, false), (7, false), (8, false), (9, false), (10, false), (5, true), (11, true), (12, false)] (by kernel_rfl) (by kernel_rfl) rfl (by kernel_rfl) ?_
                refine d_v rfl (v_move rfl) rfl ?_
                refine d_v rfl (v_move rfl) rfl ?_
                refine d_v rfl (v_move rfl) rfl ?_
                refine d_v rfl (v_idxS (pk x.a roots.length) Try.underlying90 Try.sizeOf3 rfl rfl rfl (pk_lt _ (by omega)) (by rw [intR_len]; exact (pk_lt _ (by omega)))) rfl ?_
                refine d_v rfl (v_loadS0 (v := I q) Try.isAgg3 rfl (intR_at hqq) rfl) rfl ?_
                refine d_v rfl (v_move rfl) rfl ?_
                refine d_v rfl (v_move rfl) rfl ?_
                refine d_v rfl (v_move rfl) rfl ?_
                refine d_v rfl (v_idxS (pk x.a roots.length) Try.underlying90 Try.sizeOf3 rfl rfl rfl (pk_lt _ (by omega)) (by rw [intR_len]; exact (pk_lt _ (by omega)))) rfl ?_
                refine d_v rfl (v_loadS0 (v := I q) Try.isAgg3 rfl (intR_at hqq) rfl) rfl ?_
                refine d_l rfl (l_call (Pre := [ixl p (mkG G)]) Try.call91 rfl (ct_index_Index_Share p (mkG G) q 300 hok (by decide) (rt_rng hR.V (RtRt hR hmq)).2)) rfl ?_
                rintro _ _ ⟨rfl, rfl⟩
                refine d_l rfl (l_call (Pre := [ixr b29 (xS (mkG G))]) Try.call92 rfl (ct_R_Share b29 (mkG G) q 300 hok (by decide) (rt_rng hR.V (RtRt hR hmq)).2)) rfl ?_
                rintro _ _ ⟨rfl, rfl⟩
                refine d_v rfl (v_neq rfl rfl) rfl ?_
                refine d_nil ?_
                refine g_cond rfl (fun h128 => ?_) (fun h128 => ?_)
                · simp at h128
                · skip
                  refine g_skip ?_
                  refine g_reg ?_
                  refine g_v (v_move rfl) rfl ?_
                  refine g_v (v_move rfl) rfl ?_
                  refine g_v (v_move rfl) rfl ?_
                  refine g_v (v_idxS (pk x.a roots.length) Try.underlying90 Try.sizeOf3 rfl rfl rfl (pk_lt _ (by omega)) (by rw [intR_len]; exact (pk_lt _ (by omega)))) rfl ?_
                  refine g_v (v_loadS0 (v := I q) Try.isAgg3 rfl (intR_at hqq) rfl) rfl ?_
                  refine g_l (l_buildSlice (intR [q]) Try.underlying90 Try.sizeOf3 Try.zeroValue3 rfl rfl rfl (by intro r hr; simp [intR] at hr; subst hr; rfl) (by decide) (by decide)) rfl ?_
                  rintro _ _ ⟨b134, rfl, rfl⟩
                  refine g_l (l_append Try.underlying90 Try.sizeOf3 Try.zeroValue3 rfl Try.typeInfo3 (by decide) rfl rfl (intR_len _) rfl (by simp [intR]) (by intro r hr; simp [intR] at hr; subst hr; rfl) ⟨by omega, by decide, by decide⟩) rfl ?_
                  rintro _ _ ⟨s135, c135, rfl, rfl⟩
                  refine g_v (v_assign rfl) rfl ?_
                  refine g_nil ?_
                  obtain ⟨G', V', hS, _, _, _, e1, e2, e3⟩ := share_mk hR.V (RtRt hR hmq)
                  rw [hS, show intR roots ++ intR [q] = intR (roots ++ [q]) by simp [intR]]
                  exact g_here (p, G', roots ++ [q], s135, c135) (⟨by simp; omega, RtShare hR V' e1 e2 e3⟩) [0, 4, 5, 6, 7, 8] rfl (by simp [U])
              · skip
                refine g_seq ?_
                refine g_reg ?_
                refine g_v (v_seql rfl rfl) rfl ?_
                refine g_v (v_assign rfl) rfl ?_
                refine g_nil ?_
                refine g_cond rfl (fun h136 => ?_) (fun h136 => ?_)
                · skip
                  refine g_seq ?_
                  refine g_seq ?_
                  refine g_reg ?_
                  refine g_v (v_move rfl) rfl ?_
                  refine g_v (v_eql rfl rfl) rfl ?_
                  refine g_nil ?_
                  refine g_cond rfl (fun h139 => ?_) (fun h139 => ?_)
                  · skip
                    refine g_exit rfl ?_
                    refine g_reg ?_
                    refine g_v (v_move rfl) rfl ?_
                    refine g_v (v_add rfl rfl (w64 (by omega))) rfl ?_
                    refine g_v (v_assign rfl) rfl ?_
                    refine g_nil ?_
                    exact g_again (i + 1, p, G, roots, s6, c6) ⟨by simp only []; omega, by simp only []; omega, hR⟩ (by simp only []; omega) [0, 4, 5, 6, 7] rfl rfl
                  · simp at h139
                    refine g_skip ?_
                    refine g_seq ?_
                    refine g_reg ?_
                    refine g_v (v_move rfl) rfl ?_
                    refine g_v (v_move rfl) rfl ?_
                    refine g_v (v_move rfl) rfl ?_
                    refine g_v (v_idxS (pk x.a roots.length) Try.underlying90 Try.sizeOf3 rfl rfl rfl (pk_lt _ (by omega)) (by rw [intR_len]; exact (pk_lt _ (by omega)))) rfl ?_
                    refine g_v (v_loadS0 (v := I q) Try.isAgg3 rfl (intR_at hqq) rfl) rfl ?_
                    refine g_l (l_call (Pre := [ixl p (mkG G)]) Try.call93 rfl (ct_index_Index_Free p (mkG G) q 300 hok (by decide))) rfl ?_
                    rintro _ _ ⟨rfl, rfl⟩
                    refine g_nil ?_
                    refine g_seq ?_
                    refine g_reg ?_
                    refine g_v (v_move rfl) rfl ?_
                    refine g_v (v_move rfl) rfl ?_
                    refine g_v (v_move rfl) rfl ?_
                    refine g_v (v_idxS (pk x.a roots.length) Try.underlying90 Try.sizeOf3 rfl rfl rfl (pk_lt _ (by omega)) (by rw [intR_len]; exact (pk_lt _ (by omega)))) rfl ?_
                    refine g_v (v_loadS0 (v := I q) Try.isAgg3 rfl (intR_at hqq) rfl) rfl ?_
                    refine g_l (l_call (Pre := [ixr b29 (xS (mkG G))]) Try.call94 rfl (ct_R_Free b29 (mkG G) q 300 hok (by decide) (rt_rng hR.V (RtRt hR hmq)) (RtKid hR hmq))) rfl ?_
                    rintro _ _ ⟨rfl, rfl⟩
                    refine g_nil ?_
                    refine g_cap s6 (fun hcap => ?_)
                    rw [intR_len] at hcap
                    refine g_nilown 3 1 [] rfl ?_
                    refine g_draw (Lf := [owL 3 1 s6 c6 (intR roots)]) [(0, false), (1, false), (2, false), (4, false), (5, false), (6, false), (7, false), (3, true), (8, true), (9, false)] (by kernel_rfl) (by kernel_rfl) rfl (by kernel_rfl) ?_
                    refine d_v rfl (v_move rfl) rfl ?_
                    refine d_v rfl (v_move rfl) rfl ?_
                    refine d_v rfl (v_slHi (h := (pk x.a roots.length)) Try.underlying90 Try.sizeOf3 rfl rfl rfl (by omega)) rfl ?_
                    refine d_v rfl (v_move rfl) rfl ?_
                    refine d_v rfl (v_move rfl) rfl ?_
                    refine d_v rfl (v_add rfl rfl (w64 (by omega))) rfl ?_
                    refine d_v rfl (v_slLo (l := (pk x.a roots.length) + 1) Try.underlying90 Try.sizeOf3 rfl rfl (by omega) (by omega)) rfl ?_
                    refine d_l rfl (l_appendAt (s2 := s6) (p := 0) Try.underlying90 Try.sizeOf3 Try.zeroValue3 rfl Try.typeInfo3 (by decide) rfl rfl rfl (.inl ⟨rfl, rfl⟩) (by rw [intR_len]; omega) (fun r hr => by simp only [intR, List.mem_map] at hr; obtain ⟨x, _, rfl⟩ := hr; rfl) (fun r hr => by simp only [intR, List.mem_map] at hr; obtain ⟨x, _, rfl⟩ := hr; rfl) ⟨by omega, by decide, by decide⟩) rfl ?_
                    rintro _ _ ⟨s155, c155, rfl, rfl⟩
                    refine d_l rfl (l_appendAt (s2 := s6) (p := (pk x.a roots.length) + 1) Try.underlying90 Try.sizeOf3 Try.zeroValue3 rfl Try.typeInfo3 (by decide) rfl rfl (by simp [intR]; omega) (by unfold At; split; exact .inr (.inr (by omega)); exact .inr (.inl rfl)) (by rw [intR_len]; omega) (fun r hr => by simp only [intR, List.mem_map] at hr; obtain ⟨x, _, rfl⟩ := hr; rfl) (fun r hr => by simp only [intR, List.mem_map] at hr; obtain ⟨x, _, rfl⟩ := hr; rfl) ⟨by omega, by decide, by decide⟩) rfl ?_
                    rintro _ _ ⟨s160, c160, rfl, rfl⟩
                    rw [rows_erase]
                    refine d_v rfl (v_assign rfl) rfl ?_
                    refine d_nil ?_
                    obtain ⟨G', V', hS, hL, e3⟩ := unR_mk hR.V (RtHeld hR hmq)
                    rw [hS, show 0 + (pk x.a roots.length) + (roots.length - ((pk x.a roots.length) + 1)) = (roots.take (pk x.a roots.length) ++ roots.drop ((pk x.a roots.length) + 1)).length by rw [len_erase (by omega)]; omega]
                    exact g_here (p, G', roots.take (pk x.a roots.length) ++ roots.drop ((pk x.a roots.length) + 1), s160, c160) (⟨by rw [len_erase (by omega)]; omega, RtFree hR hqq V' hL e3⟩) [0, 4, 5, 6, 7, 8] rfl (by simp [U])
                · skip
                  refine g_seq ?_
                  refine g_reg ?_
                  refine g_v (v_move rfl) rfl ?_
                  refine g_l (l_call (Pre := [ixl p (mkG G)]) Try.call95 rfl (ct_index_Index_Copy p (mkG G))) rfl ?_
                  rintro _ _ ⟨p3, rfl, rfl⟩
                  refine g_v (v_assign rfl) rfl ?_
                  refine g_nil ?_
                  refine g_seq ?_
                  refine g_draw (Lf := [owL 3 1 s6 c6 (intR roots), pt b8 (.cells (encAct x (f i)).toArray 52 (0, 0))]) [(0, false), (1, false), (2, false), (3, false), (4, false), (5, false), (6, false), (7, true), (8, false), (9, false), (10, false)] (by kernel_rfl) (by kernel_rfl) rfl (by kernel_rfl) ?_
                  refine d_v rfl (v_move rfl) rfl ?_
                  refine d_v rfl (v_move rfl) rfl ?_
                  refine d_v rfl (v_move rfl) rfl ?_
                  refine d_v rfl (v_idxS (pk x.a roots.length) Try.underlying90 Try.sizeOf3 rfl rfl rfl (pk_lt _ (by omega)) (by rw [intR_len]; exact (pk_lt _ (by omega)))) rfl ?_
                  refine d_v rfl (v_loadS0 (v := I q) Try.isAgg3 rfl (intR_at hqq) rfl) rfl ?_
                  refine d_v rfl (v_fieldAddr 3 Try.underlying52 rfl rfl Try.sizeOf3 (by decide) rfl) rfl ?_
                  refine d_v rfl (v_load (v := I ((x.b.toNat : Nat) : Int)) Try.isAgg3 rfl (by rw [hbn]; rfl)) rfl ?_
                  refine d_l rfl (l_call (Pre := [ixl p (mkG G)]) Try.call89 rfl (ct_index_Index_Set p (mkG G) q x.b.toNat oldS 300 hok (by decide) (by omega) (by decide) (RtKid hR hmq))) rfl ?_
                  rintro _ _ ⟨rfl, rfl⟩
                  refine d_v rfl (v_move rfl) rfl ?_
                  refine d_v rfl (v_extract (v := I (setE (mkG G) q x.b.toNat oldS).1) rfl rfl) rfl ?_
                  refine d_v rfl (v_extract (v := errV (setE (mkG G) q x.b.toNat oldS).2) rfl rfl) rfl ?_
                  refine d_nil ?_
                  refine g_reg ?_
                  refine g_v (v_move rfl) rfl ?_
                  refine g_v (v_assign rfl) rfl ?_
                  refine g_nil ?_
                  exact g_here (p3, G, roots, s6, c6) (⟨by simp only []; omega, hR⟩) [0, 4, 5, 6, 7, 8] rfl (by simp [U])
          rintro ⟨p, G', roots', s6', c6'⟩ ⟨hrl', hR'⟩
          simp only [] at hrl' hR' ⊢
          have hok' := RtOk hR' (m := 300) (by omega)
          obtain ⟨u, hqu⟩ : ∃ z0, roots'[pk x.a roots'.length]? = some z0 := ⟨_, List.getElem?_eq_getElem (pk_lt _ (by omega))⟩
          have hmu := List.mem_of_getElem? hqu
          obtain ⟨v, hqv⟩ : ∃ z0, roots'[roots'.length - 1]? = some z0 := ⟨_, List.getElem?_eq_getElem (by omega)⟩
          have hmv := List.mem_of_getElem? hqv
          refine g_blk ?_
          refine g_seq ?_
          refine g_seq ?_
          refine g_reg ?_
          refine g_v (v_move rfl) rfl ?_
          refine g_v (v_move rfl) rfl ?_
          refine g_l (l_call (Pre := [ixl p (mkG G'), ixr b29 (xS (mkG G'))]) Try.call96 rfl (ct_L_asIndex p b29 (mkG G') 300 hok' (by decide))) rfl ?_
          rintro _ _ ⟨rfl, rfl⟩
          refine g_v (v_not rfl) rfl ?_
          refine g_nil ?_
          refine g_false rfl ?_
          refine g_skip ?_
          refine g_seq ?_
          refine g_reg ?_
          refine g_v (v_move rfl) rfl ?_
          refine g_v (v_fieldAddr 2 Try.underlying52 rfl rfl Try.sizeOf3 (by decide) rfl) rfl ?_
          refine g_v (v_load (v := I x.a) Try.isAgg3 rfl rfl) rfl ?_
          refine g_v (v_mask 10 rfl (by decide) (by decide)) rfl ?_
          refine g_v (v_move rfl) rfl ?_
          refine g_v (v_len Try.underlying90 rfl) rfl ?_
          refine g_v (v_rem (r := ((pk x.a roots'.length : Nat) : Int)) rfl rfl (by omega) (pk_rem _)) rfl ?_
          refine g_v (v_idxS (pk x.a roots'.length) Try.underlying90 Try.sizeOf3 rfl rfl rfl (pk_lt _ (by omega)) (by rw [intR_len]; exact pk_lt _ (by omega))) rfl ?_
          refine g_v (v_loadS0 (v := I u) Try.isAgg3 rfl (intR_at hqu) rfl) rfl ?_
          refine g_v (v_assign rfl) rfl ?_
          refine g_nil ?_
          refine g_seq ?_
          refine g_reg ?_
          refine g_v (v_move rfl) rfl ?_
          refine g_v (v_move rfl) rfl ?_
          refine g_v (v_len Try.underlying90 rfl) rfl ?_
          refine g_v (v_sub (r := ((roots'.length - 1 : Nat) : Int)) rfl rfl (by rw [show ((roots'.length : Nat) : Int) - 1 = ((roots'.length - 1 : Nat) : Int) by omega]; exact w64 (by omega))) rfl ?_
          refine g_v (v_idxS (roots'.length - 1) Try.underlying90 Try.sizeOf3 rfl rfl rfl (by omega) (by rw [intR_len]; omega)) rfl ?_
          refine g_v (v_loadS0 (v := I v) Try.isAgg3 rfl (intR_at hqv) rfl) rfl ?_
          refine g_v (v_assign rfl) rfl ?_
          refine g_nil ?_
          refine g_seq ?_
          refine g_seq ?_
          refine g_reg ?_
          refine g_v (v_assign rfl) rfl ?_
          refine g_nil ?_
          refine g_block ?_
          refine g_loop (α := Nat) (fun t => t ≤ 16) (fun t => U [(0, sl s l.length cap), (4, ptr p 0), (5, ptr b29 0), (6, sl s6' roots'.length c6'), (7, I i), (15, I u), (16, I v), (17, I t)]) (fun t => ixl p (mkG G') :: ixr b29 (xS (mkG G')) :: owL 3 1 s6' c6' (intR roots') :: acts s l f :: F) (fun t => 16 - t) 0 (by omega) [0, 4, 5, 6, 7, 15, 16, 17] rfl rfl ?_
          intro t ht
          refine g_seq ?_
          refine g_seq ?_
          refine g_reg ?_
          refine g_v (v_move rfl) rfl ?_
          refine g_v (v_lss rfl rfl) rfl ?_
          refine g_nil ?_
          refine g_cond rfl (fun h181 => ?_) (fun h181 => ?_)
          · simp at h181
            have h16 : t < 16 := by omega
            refine g_skip ?_
            refine g_seq ?_
            refine g_block ?_
            refine g_seq ?_
            refine g_reg ?_
            refine g_v (v_move rfl) rfl ?_
            refine g_v (v_move rfl) rfl ?_
            refine g_v (v_move rfl) rfl ?_
            refine g_l (l_call (Pre := [ixl p (mkG G')]) Try.call97 rfl (ct_index_Index_Get p (mkG G') u t 300 hok' (by decide) h16)) rfl ?_
            rintro _ _ ⟨rfl, rfl⟩
            refine g_v (v_move rfl) rfl ?_
            refine g_v (v_move rfl) rfl ?_
            refine g_v (v_move rfl) rfl ?_
            refine g_l (l_call (Pre := [ixr b29 (xS (mkG G'))]) Try.call98 rfl (ct_R_Get b29 (mkG G') u t 300 hok' h16 (gOkX_of hR'.V (RtRt hR' hmu)))) rfl ?_
            rintro _ _ ⟨rfl, rfl⟩
            refine g_v (v_sneq rfl rfl) rfl ?_
            refine g_nil ?_
            refine g_cond rfl (fun h192 => ?_) (fun h192 => ?_)
            · simp at h192
            · skip
              refine g_skip ?_
              refine g_blk ?_
              refine g_reg ?_
              refine g_v (v_move rfl) rfl ?_
              refine g_v (v_add rfl rfl (w64 (by omega))) rfl ?_
              refine g_v (v_assign rfl) rfl ?_
              refine g_nil ?_
              exact g_again (t + 1) (by omega) (by omega) [0, 4, 5, 6, 7, 15, 16, 17] rfl rfl
          · skip
            refine g_exit rfl ?_
            refine g_seq ?_
            refine g_reg ?_
            refine g_v (v_move rfl) rfl ?_
            refine g_v (v_move rfl) rfl ?_
            refine g_v (v_move rfl) rfl ?_
            refine g_l (l_call (Pre := [ixl p (mkG G')]) Try.call99 rfl (ct_index_Index_Diff p (mkG G') u v 300 hok' (by decide))) rfl ?_
            rintro _ _ ⟨s196, c196, rfl, rfl⟩
            refine g_freeze s196 ?_
            refine g_v (v_move rfl) rfl ?_
            refine g_v (v_move rfl) rfl ?_
            refine g_v (v_move rfl) rfl ?_
            refine g_l (l_call (Pre := [ixr b29 (xS (mkG G'))]) Try.call100 rfl (ct_R_Diff b29 (mkG G') u v 300 hok' (gOkX_of hR'.V (RtRt hR' hmu)) (gOkX_of hR'.V (RtRt hR' hmv)))) rfl ?_
            rintro _ _ ⟨s200, c200, rfl, rfl⟩
            refine g_freeze s200 ?_
            refine g_l (l_call (Pre := [roL 1 s196 (intR (diffS (mkG G') u v)), roL 1 s200 (intR (diffS (mkG G') u v))]) Try.call84 rfl (ct_R_SameNumbers (diffS (mkG G') u v) (diffS (mkG G') u v) s196 s200 c196 c200 (Nat.le_trans (dT_len (mkG G') u v 16) (by decide)))) rfl ?_
            rintro _ _ ⟨rfl, rfl⟩
            refine g_v (v_not rfl) rfl ?_
            refine g_nil ?_
            refine g_cond rfl (fun h202 => ?_) (fun h202 => ?_)
            · simp at h202
            · skip
              refine g_skip ?_
              refine g_blk ?_
              refine g_reg ?_
              refine g_v (v_move rfl) rfl ?_
              refine g_v (v_add rfl rfl (w64 (by omega))) rfl ?_
              refine g_v (v_assign rfl) rfl ?_
              refine g_nil ?_
              exact g_again (i + 1, p, G', roots', s6', c6') ⟨by simp only []; omega, by simp only []; omega, hR'⟩ (by simp only []; omega) [0, 4, 5, 6, 7] rfl rfl
    · skip
      refine g_exit rfl ?_
      refine g_seq ?_
      refine g_reg ?_
      refine g_v (v_assign rfl) rfl ?_
      refine g_nil ?_
      refine g_ret1 rfl rfl ?_
      exact rfl

end Go.Proofs.Ythdjckbjjfiopaa
