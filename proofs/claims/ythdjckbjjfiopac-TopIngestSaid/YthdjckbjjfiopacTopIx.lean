/- Walks: an index made of actions. No condition. -/
import Derived.Test.YthdjckbjjfiopacLight2
import Derived.Test.YthdjckbjjfiopacIx3
import Derived.Test.YthdjckbjjfiopacIxT
namespace Go.Proofs.Ythdjckbjjfiopac
open Go.Sl Go.Proofs
set_option linter.unusedVariables false
set_option linter.unusedSimpArgs false
theorem cnt_app (l : List Int) (x q : Int) : cnt (l ++ [x]) q = cnt l q + if q = x ∧ x ≠ 0 then 1 else 0 := by
  unfold cnt
  by_cases hq : q = 0
  · subst hq
    rw [if_pos rfl, if_pos rfl, if_neg (fun h => h.2 h.1.symm)]
    rfl
  · rw [if_neg hq, if_neg hq, List.count_append, List.count_cons]
    by_cases hx : x = q
    · subst hx; simp [hq]
    · simp [hx, Ne.symm hx]
theorem cnt_le (l : List Int) (q : Int) : cnt l q ≤ l.length := by
  unfold cnt
  split
  · omega
  · have := List.count_le_length (l := l) (a := q)
    omega
theorem cnt_mem {l : List Int} {q : Int} (h : q ∈ l) (h0 : q ≠ 0) : 1 ≤ cnt l q := by
  unfold cnt
  rw [if_neg h0]
  have := List.count_pos_iff.2 h
  omega
/-- an index and the roots that are held -/
structure Rt (G : Gh) (roots : List Int) : Prop where
  V : Val G
  eL : ∀ q, G.eL q = 0
  eB : ∀ q, G.eB q = 0
  eR : ∀ q, G.eR q = cnt roots q
theorem RtRt {G : Gh} {roots : List Int} (h : Rt G roots) {q : Int} (hq : q ∈ roots) : rt G q := by
  by_cases h0 : q = 0
  · exact .inl h0
  · refine .inr (Option.isSome_iff_exists.1 ((h.V.pR q h0).2 ?_))
    have := cnt_mem hq h0
    rw [h.eR]
    omega
theorem RtOk {G : Gh} {roots : List Int} (h : Rt G roots) {m : Int} (hm : (roots.length : Int) + 96 ≤ m) : okS m (mkG G) := okS_mono (mk_ok h.V (m := roots.length) (fun q => by rw [h.eR]; exact cnt_le _ _) (fun q => by rw [h.eL]; omega) (fun q => by rw [h.eB]; omega)) hm
theorem RtKid {G : Gh} {roots : List Int} (h : Rt G roots) {q : Int} (hq : q ∈ roots) : ∀ i, i < 4 → 0 ≤ kat (gN (mkG G).N q) i ∧ kat (gN (mkG G).N q) i ≤ 24 := fun i hi => lf_rng h.V (rt_kid h.V (RtRt h hq) hi)
theorem rt_kidr {G : Gh} (V : Val G) {q : Int} (h : rt G q) : ∀ i, i < 4 → 0 ≤ kat (gN (mkG G).N q) i ∧ kat (gN (mkG G).N q) i ≤ 24 := fun i hi => lf_rng V (rt_kid V h hi)
theorem RtSet {G G' : Gh} {roots : List Int} {root out : Int} {at_ : Nat} {d : Bytes} (h : Rt G roots) (o : SetOk G G' root at_ d out) : Rt G' (roots ++ [out]) :=
  ⟨o.V, fun q => by rw [o.eL]; exact h.eL q, fun q => by rw [o.eB]; exact h.eB q, fun q => by rw [o.eR, h.eR, cnt_app]⟩
theorem RtZ : Rt gZ [0] := ⟨gZ_val, fun _ => rfl, fun _ => rfl, fun q => by
  show (0 : Int) = cnt [0] q
  unfold cnt
  by_cases h : q = 0
  · simp [h]
  · simp [h, Ne.symm h]⟩
theorem gZ_ok : okS 1 (mkG gZ) := ⟨sup_none _, (fun q x h => by cases h), sup_none _, (fun q x h => by cases h)⟩
/-- which root an action names -/
def pk (a : Int) (n : Nat) : Nat := (a % 2 ^ 10).toNat % n
theorem pk_rem (a : Int) {n : Nat} : (a % 2 ^ 10).tmod (n : Int) = ((pk a n : Nat) : Int) := by
  have h := Int.emod_nonneg a (show (2 : Int) ^ 10 ≠ 0 by decide)
  obtain ⟨k, hk⟩ : ∃ k : Nat, a % 2 ^ 10 = k := ⟨_, (Int.toNat_of_nonneg h).symm⟩
  unfold pk
  rw [hk]
  rfl
theorem pk_lt (a : Int) {n : Nat} (h : 0 < n) : pk a n < n := Nat.mod_lt _ h
theorem lightS {l : List ActM} {m : Int} {x : ActM} (h : lightA l m = true) (hx : x ∈ l) : x.s.length ≤ 100 := by
  unfold lightA at h
  simp only [Bool.and_eq_true, List.all_eq_true] at h
  have := h.2 x hx
  unfold lightA1 at this
  simp only [Bool.and_eq_true, decide_eq_true_eq] at this
  exact this.1.1.1
theorem lightL {l : List ActM} {m : Int} (h : lightA l m = true) : (l.length : Int) ≤ m := by
  unfold lightA at h
  simp only [Bool.and_eq_true, decide_eq_true_eq] at h
  exact h.1
theorem setZ : setE (mkG gZ) 0 5 [120] = (2, 0) := by decide +kernel
theorem getZ (i : Nat) : getS (mkG gZ) 0 i = [] := by
  rw [getS_dv, g0_kat gZ_val, g0_kat gZ_val, dv_0 gZ_val]
theorem setE_nn (S : SI) (root : Int) (at_ : Nat) (d : Bytes) : 0 ≤ (setE S root at_ d).2 := by
  have hb : 0 ≤ (blockE S d).2 := by
    unfold blockE
    split
    · simp
    · unfold putE
      split
      · simp
      · cases freeId 40 S.B <;> simp
  have hn : ∀ S n, 0 ≤ (nodeE S n).2 := fun S n => by have := nodeE_ne S n; omega
  unfold setE
  simp only
  split
  · exact hb
  · split
    · exact hn _ _
    · split
      · exact hn _ _
      · simp
/-- either nothing, or an index and roots -/
def RRt (l : List ActM) (A : HProp) (F : List HProp) : Value → List HProp → Prop := fun v L' =>
  (v = .tuple #[.pointer none, sl none 0 0, Bo false] ∧ L' = A :: F) ∨
  ∃ b G roots s c, v = .tuple #[ptr b 0, sl s roots.length c, Bo true] ∧ L' = ixl b (mkG G) :: owL 3 1 s c (intR roots) :: A :: F ∧ roots ≠ [] ∧ roots.length ≤ l.length + 1 ∧ Rt G roots

theorem ct_T_indexed  (F : List HProp) : Ct Try.prog 23 [] ([] ++ F) (R1 (Bo true) F) := by
  show Ct Try.prog 23 [] (F) _
  refine Ct.of Try.func23 rfl 28 Try.ntmps23 (by simp) fun w0 => ?_
  refine g_seq ?_
  refine g_reg ?_
  refine g_v (v_assign rfl) rfl ?_
  refine g_nil ?_
  refine g_seq ?_
  refine g_reg ?_
  refine g_l (l_call (Pre := []) Try.call50 rfl (ct_index_New)) rfl ?_
  rintro _ _ ⟨b, rfl, rfl⟩
  rw [← gZ_mk]
  refine g_v (v_assign rfl) rfl ?_
  refine g_nil ?_
  refine g_seq ?_
  refine g_reg ?_
  refine g_v (v_move rfl) rfl ?_
  refine g_l (l_call (Pre := [ixl b (mkG gZ)]) Try.call27 rfl (ct_index_Index_Set b (mkG gZ) 0 5 [120] 1 gZ_ok (by decide) (by decide) (by decide) (rt_kidr gZ_val (.inl rfl)))) rfl ?_
  rintro _ _ ⟨rfl, rfl⟩
  obtain ⟨G, hS, hO⟩ := set_mk gZ_val (.inl rfl) (by decide) setZ
  have hok : okS 200 (mkG G) := RtOk (RtSet RtZ hO) (by simp)
  have hg5 : getS (mkG G) 2 5 = [120] := hO.get 5 (by decide)
  have hg4 : getS (mkG G) 2 4 = [] := (hO.get 4 (by decide)).trans (getZ 4)
  rw [hS, setZ]
  refine g_v (v_move rfl) rfl ?_
  refine g_v (v_extract (v := I 2) rfl rfl) rfl ?_
  refine g_v (v_extract (v := errT 94 0) rfl rfl) rfl ?_
  refine g_v (v_assign rfl) rfl ?_
  refine g_v (v_assign rfl) rfl ?_
  refine g_nil ?_
  refine g_seq ?_
  refine g_reg ?_
  refine g_v (v_move rfl) rfl ?_
  refine g_v (v_ieql Try.underlying33 rfl) rfl ?_
  refine g_v (v_move rfl) rfl ?_
  refine g_gv1 rfl rfl (by simp) (v_move rfl) rfl ?_
  refine g_gv1 rfl rfl (by simp) (v_gtr rfl rfl) rfl ?_
  refine g_v (v_and rfl rfl) rfl ?_
  refine g_v (v_move rfl) rfl ?_
  refine g_gv1 rfl rfl (by simp) (v_move rfl) rfl ?_
  refine g_gv1 rfl rfl (by simp) (v_move rfl) rfl ?_
  refine g_gl rfl rfl (by simp) (l_call (Pre := [ixl b (mkG G)]) Try.call25 rfl (ct_index_Index_Get b (mkG G) 2 5 200 hok (by decide) (by decide))) rfl ?_
  rintro _ _ ⟨rfl, rfl⟩
  rw [hg5]
  refine g_gv1 rfl rfl (by simp) (v_seql rfl rfl) rfl ?_
  refine g_v (v_and rfl rfl) rfl ?_
  refine g_v (v_move rfl) rfl ?_
  refine g_gv1 rfl rfl (by simp) (v_move rfl) rfl ?_
  refine g_gv1 rfl rfl (by simp) (v_move rfl) rfl ?_
  refine g_gl rfl rfl (by simp) (l_call (Pre := [ixl b (mkG G)]) Try.call25 rfl (ct_index_Index_Get b (mkG G) 2 4 200 hok (by decide) (by decide))) rfl ?_
  rintro _ _ ⟨rfl, rfl⟩
  rw [hg4]
  refine g_gv1 rfl rfl (by simp) (v_seql rfl rfl) rfl ?_
  refine g_v (v_and rfl rfl) rfl ?_
  refine g_v (v_assign rfl) rfl ?_
  refine g_nil ?_
  refine g_ret1 rfl rfl ?_
  show Bo _ = Bo true
  simp

theorem ct_T_rooted (l : List ActM) (f : Nat → ActZ) (s : Option Addr) (cap : Nat) (hll : l.length ≤ 90) (hls : ∀ x ∈ l, x.s.length ≤ 1000) (F : List HProp) : Ct Try.prog 24 [sl s l.length cap] ([acts s l f] ++ F) (RRt l (acts s l f) F) := by
  show Ct Try.prog 24 [sl s l.length cap] (acts s l f :: F) _
  refine Ct.of Try.func24 rfl 67 Try.ntmps24 (by simp) fun w0 => ?_
  refine g_seq ?_
  refine g_reg ?_
  refine g_v (v_assign rfl) rfl ?_
  refine g_v (v_assign rfl) rfl ?_
  refine g_v (v_assign rfl) rfl ?_
  refine g_nil ?_
  refine g_seq ?_
  refine g_reg ?_
  refine g_l (l_call (Pre := []) Try.call50 rfl (ct_index_New)) rfl ?_
  rintro _ _ ⟨b, rfl, rfl⟩
  rw [← gZ_mk]
  refine g_v (v_assign rfl) rfl ?_
  refine g_nil ?_
  refine g_seq ?_
  refine g_reg ?_
  refine g_l (l_buildSlice (intR [0]) Try.underlying45 Try.sizeOf3 Try.zeroValue3 rfl rfl rfl (by intro r hr; simp [intR] at hr; subst hr; rfl) (by decide) (by decide)) rfl ?_
  rintro _ _ ⟨b11, rfl, rfl⟩
  refine g_v (v_assign rfl) rfl ?_
  refine g_nil ?_
  refine g_seq ?_
  refine g_seq ?_
  refine g_reg ?_
  refine g_v (v_assign rfl) rfl ?_
  refine g_nil ?_
  refine g_block ?_
  refine g_loop (α := Nat × Gh × List Int × Option Addr × Nat) (fun z => z.1 ≤ l.length ∧ z.2.2.1.length = z.1 + 1 ∧ Rt z.2.1 z.2.2.1) (fun z => U [(0, sl s l.length cap), (5, ptr b 0), (6, sl z.2.2.2.1 z.2.2.1.length z.2.2.2.2), (7, I z.1)]) (fun z => ixl b (mkG z.2.1) :: owL 3 1 z.2.2.2.1 z.2.2.2.2 (intR z.2.2.1) :: acts s l f :: F) (fun z => l.length - z.1) (0, gZ, [0], some ⟨b11, 0, none⟩, 1) ⟨by simp, rfl, RtZ⟩ [0, 5, 6, 7] rfl rfl ?_
  rintro ⟨i, G, roots, s6, c6⟩ ⟨hi, hrl, hR⟩
  simp only [] at hi hrl hR ⊢
  refine g_seq ?_
  refine g_seq ?_
  refine g_reg ?_
  refine g_v (v_move rfl) rfl ?_
  refine g_v (v_move rfl) rfl ?_
  refine g_v (v_len Try.underlying22 rfl) rfl ?_
  refine g_v (v_lss rfl rfl) rfl ?_
  refine g_nil ?_
  refine g_cond rfl (fun h15 => ?_) (fun h15 => ?_)
  · simp at h15
    have hkn : i < l.length := by omega
    obtain ⟨x, hx⟩ : ∃ x, l[i]? = some x := ⟨_, List.getElem?_eq_getElem hkn⟩
    have hkr : i < (actR l f).length := by rw [actR_len]; exact hkn
    have hxs := hls x (List.mem_of_getElem? hx)
    have hsok := RtOk hR (m := 200) (by omega)
    obtain ⟨q, hqq⟩ : ∃ z0, roots[pk x.a roots.length]? = some z0 := ⟨_, List.getElem?_eq_getElem (pk_lt _ (by omega))⟩
    have hmq := List.mem_of_getElem? hqq
    refine g_skip ?_
    refine g_seq ?_
    refine g_block ?_
    refine g_seq ?_
    refine g_seq ?_
    refine g_reg ?_
    refine g_v (v_move rfl) rfl ?_
    refine g_v (v_move rfl) rfl ?_
    refine g_v (v_idxS i Try.underlying22 Try.sizeOf51 rfl rfl rfl hkn hkr) rfl ?_
    refine g_v (v_fieldAdrS (j := i) 3 Try.underlying51 rfl rfl Try.sizeOf3 (by decide) rfl hkr) rfl ?_
    refine g_v (v_loadS (v := I x.b) Try.isAgg3 rfl (actR_at hx) rfl) rfl ?_
    refine g_v (v_lss rfl rfl) rfl ?_
    refine g_v (v_move rfl) rfl ?_
    by_cases hb0 : x.b < 0
    · have hb : decide (x.b < 0) = true := decide_eq_true hb0
      refine g_no rfl rfl (by rw [hb]; rfl) rfl ?_
      refine g_no rfl rfl (by rw [hb]; rfl) rfl ?_
      refine g_no rfl rfl (by rw [hb]; rfl) rfl ?_
      refine g_no rfl rfl (by rw [hb]; rfl) rfl ?_
      refine g_no rfl rfl (by rw [hb]; rfl) rfl ?_
      refine g_no rfl rfl (by rw [hb]; rfl) rfl ?_
      refine g_v (v_pk1 rfl hb rfl) rfl ?_
      refine g_nil ?_
      refine g_true rfl ?_
      refine g_seq ?_
      refine g_reg ?_
      refine g_v (v_assign rfl) rfl ?_
      refine g_v (v_assign rfl) rfl ?_
      refine g_v (v_assign rfl) rfl ?_
      refine g_nil ?_
      refine g_sub (L2 := acts s l f :: F) ?_
      exact fun a w hE hS => wp_ret (kq_ret (res_fpost (vs := [.pointer none, sl none 0 0, Bo false]) rfl hE hS (.inl ⟨rfl, rfl⟩)))
    · have hb : decide (x.b < 0) = false := decide_eq_false hb0
      refine g_gv1 rfl rfl hb (v_move rfl) rfl ?_
      refine g_gv1 rfl rfl hb (v_move rfl) rfl ?_
      refine g_gv1 rfl rfl hb (v_idxS i Try.underlying22 Try.sizeOf51 rfl rfl rfl hkn hkr) rfl ?_
      refine g_gv1 rfl rfl hb (v_fieldAdrS (j := i) 3 Try.underlying51 rfl rfl Try.sizeOf3 (by decide) rfl hkr) rfl ?_
      refine g_gv1 rfl rfl hb (v_loadS (v := I x.b) Try.isAgg3 rfl (actR_at hx) rfl) rfl ?_
      refine g_gv1 rfl rfl hb (v_geq rfl rfl) rfl ?_
      refine g_v (v_or rfl rfl) rfl ?_
      refine g_nil ?_
      refine g_cond rfl (fun h31 => ?_) (fun h31 => ?_)
      · skip
        refine g_seq ?_
        refine g_reg ?_
        refine g_v (v_assign rfl) rfl ?_
        refine g_v (v_assign rfl) rfl ?_
        refine g_v (v_assign rfl) rfl ?_
        refine g_nil ?_
        refine g_sub (L2 := acts s l f :: F) ?_
        exact fun a w hE hS => wp_ret (kq_ret (res_fpost (vs := [.pointer none, sl none 0 0, Bo false]) rfl hE hS (.inl ⟨rfl, rfl⟩)))
      · simp [hb0] at h31
        have hbn : (x.b.toNat : Int) = x.b := by omega
        refine g_skip ?_
        refine g_seq ?_
        refine g_draw (Lf := [owL 3 1 s6 c6 (intR roots), acts s l f]) [(0, false), (1, false), (2, false), (3, false), (4, false), (5, false), (6, false), (7, false), (8, false), (9, false), (10, false), (11, false), (12, false), (13, false), (14, false), (15, false), (16, false), (17, false), (18, false), (19, false), (20, false), (21, false), (22, false), (23, true), (24, false), (25, false), (26, false), (27, false), (28, false)] (by kernel_rfl) (by kernel_rfl) rfl (by kernel_rfl) ?_
        refine d_v rfl (v_move rfl) rfl ?_
        refine d_v rfl (v_move rfl) rfl ?_
        refine d_v rfl (v_move rfl) rfl ?_
        refine d_v rfl (v_move rfl) rfl ?_
        refine d_v rfl (v_idxS i Try.underlying22 Try.sizeOf51 rfl rfl rfl hkn hkr) rfl ?_
        refine d_v rfl (v_fieldAdrS (j := i) 2 Try.underlying51 rfl rfl Try.sizeOf3 (by decide) rfl hkr) rfl ?_
        refine d_v rfl (v_loadS (v := I x.a) Try.isAgg3 rfl (actR_at hx) rfl) rfl ?_
        refine d_v rfl (v_mask 10 rfl (by decide) (by decide)) rfl ?_
        refine d_v rfl (v_move rfl) rfl ?_
        refine d_v rfl (v_len Try.underlying45 rfl) rfl ?_
        refine d_v rfl (v_rem (r := ((pk x.a roots.length : Nat) : Int)) rfl rfl (by omega) (pk_rem _)) rfl ?_
        refine d_v rfl (v_idxS (pk x.a roots.length) Try.underlying45 Try.sizeOf3 rfl rfl rfl (pk_lt _ (by omega)) (by rw [intR_len]; exact pk_lt _ (by omega))) rfl ?_
        refine d_v rfl (v_loadS0 (v := I q) Try.isAgg3 rfl (intR_at hqq) rfl) rfl ?_
        refine d_v rfl (v_move rfl) rfl ?_
        refine d_v rfl (v_move rfl) rfl ?_
        refine d_v rfl (v_idxS i Try.underlying22 Try.sizeOf51 rfl rfl rfl hkn hkr) rfl ?_
        refine d_v rfl (v_fieldAdrS (j := i) 3 Try.underlying51 rfl rfl Try.sizeOf3 (by decide) rfl hkr) rfl ?_
        refine d_v rfl (v_loadS (v := I ((x.b.toNat : Nat) : Int)) Try.isAgg3 rfl (actR_at hx) (by rw [hbn]; rfl)) rfl ?_
        refine d_v rfl (v_move rfl) rfl ?_
        refine d_v rfl (v_move rfl) rfl ?_
        refine d_v rfl (v_idxS i Try.underlying22 Try.sizeOf51 rfl rfl rfl hkn hkr) rfl ?_
        refine d_v rfl (v_fieldAdrS (j := i) 1 Try.underlying51 rfl rfl Try.sizeOf9 (by decide) rfl hkr) rfl ?_
        refine d_v rfl (v_loadS (v := Str x.s) Try.isAgg9 rfl (actR_at hx) rfl) rfl ?_
        refine d_l rfl (l_call (Pre := [ixl b (mkG G)]) Try.call27 rfl (ct_index_Index_Set b (mkG G) q x.b.toNat x.s 200 hsok (by decide) (by omega) (Nat.le_trans hxs (by decide)) (RtKid hR hmq))) rfl ?_
        rintro _ _ ⟨rfl, rfl⟩
        refine d_v rfl (v_move rfl) rfl ?_
        refine d_v rfl (v_extract (v := I (setE (mkG G) q x.b.toNat x.s).1) rfl rfl) rfl ?_
        refine d_v rfl (v_extract (v := errT 94 (setE (mkG G) q x.b.toNat x.s).2) rfl rfl) rfl ?_
        refine d_v rfl (v_assign rfl) rfl ?_
        refine d_v rfl (v_assign rfl) rfl ?_
        refine d_nil ?_
        refine g_seq ?_
        refine g_seq ?_
        refine g_reg ?_
        refine g_v (v_move rfl) rfl ?_
        refine g_v (v_ineq Try.underlying33 rfl) rfl ?_
        refine g_nil ?_
        refine g_cond rfl (fun h60 => ?_) (fun h60 => ?_)
        · skip
          refine g_seq ?_
          refine g_reg ?_
          refine g_v (v_assign rfl) rfl ?_
          refine g_v (v_assign rfl) rfl ?_
          refine g_v (v_assign rfl) rfl ?_
          refine g_nil ?_
          refine g_sub (L2 := acts s l f :: F) ?_
          exact fun a w hE hS => wp_ret (kq_ret (res_fpost (vs := [.pointer none, sl none 0 0, Bo false]) rfl hE hS (.inl ⟨rfl, rfl⟩)))
        · simp at h60
          refine g_skip ?_
          refine g_reg ?_
          refine g_v (v_move rfl) rfl ?_
          refine g_v (v_move rfl) rfl ?_
          refine g_l (l_buildSlice (intR [(setE (mkG G) q x.b.toNat x.s).1]) Try.underlying45 Try.sizeOf3 Try.zeroValue3 rfl rfl rfl (by intro r hr; simp [intR] at hr; subst hr; rfl) (by decide) (by decide)) rfl ?_
          rintro _ _ ⟨b63, rfl, rfl⟩
          refine g_l (l_append Try.underlying45 Try.sizeOf3 Try.zeroValue3 rfl Try.typeInfo3 (by decide) rfl rfl (intR_len _) rfl (by simp [intR]) (by intro r hr; simp [intR] at hr; subst hr; rfl) ⟨by omega, by decide, by decide⟩) rfl ?_
          rintro _ _ ⟨s64, c64, rfl, rfl⟩
          refine g_v (v_assign rfl) rfl ?_
          refine g_nil ?_
          refine g_blk ?_
          refine g_reg ?_
          refine g_v (v_move rfl) rfl ?_
          refine g_v (v_add rfl rfl (w64 (by omega))) rfl ?_
          refine g_v (v_assign rfl) rfl ?_
          refine g_nil ?_
          obtain ⟨G', hS, hO⟩ := set_mk hR.V (RtRt hR hmq) (by omega : x.b.toNat < 16) (Prod.ext rfl h60 : setE (mkG G) q x.b.toNat x.s = ((setE (mkG G) q x.b.toNat x.s).1, 0))
          rw [hS, show intR roots ++ intR [(setE (mkG G) q x.b.toNat x.s).1] = intR (roots ++ [(setE (mkG G) q x.b.toNat x.s).1]) by simp [intR]]
          exact g_again (i + 1, G', roots ++ [(setE (mkG G) q x.b.toNat x.s).1], s64, c64) ⟨by simp only []; omega, by simp [hrl], RtSet hR hO⟩ (by simp only []; omega) [0, 5, 6, 7] rfl (by simp [U])
  · simp at h15
    obtain rfl : i = l.length := by omega
    refine g_exit rfl ?_
    refine g_seq ?_
    refine g_reg ?_
    refine g_v (v_move rfl) rfl ?_
    refine g_v (v_move rfl) rfl ?_
    refine g_v (v_assign rfl) rfl ?_
    refine g_v (v_assign rfl) rfl ?_
    refine g_v (v_assign rfl) rfl ?_
    refine g_nil ?_
    exact fun a w hE hS => wp_ret (kq_ret (res_fpost (vs := [ptr b 0, sl s6 roots.length c6, Bo true]) rfl hE hS (.inr ⟨b, G, roots, s6, c6, rfl, rfl, by intro e; rw [e] at hrl; simp at hrl, by omega, hR⟩)))

end Go.Proofs.Ythdjckbjjfiopac
