/- The walk through image.Parse. No condition but the library's tables. -/
import Derived.Test.YthdjckbjjfiopacGreatDoorIm4
namespace Go.Proofs.YthdjckbjjfiopacGreatDoor
open Go.Sl Go.Proofs
set_option linter.unusedVariables false
set_option linter.unusedSimpArgs false
theorem bldV1 (x : Nat) (w : World) : (Instr.build 47 #[(0, ptr x 0)]).run Tryz.prog w = .ok (.agg #[ptr x 0, sl none 0 0, I 0]) w := by
  simp [Instr.build, Tryz.zeroValue47, Tryz.runUnderlying47, Tryz.sizeOf44, Instr.fill, cells_agg, show (ptr x 0).cells = #[ptr x 0] from rfl, sl]
theorem badK_eq {l : List ChangeM} {i : Nat} {c pc : ChangeM} (h : 0 < i → l[i - 1]? = some pc) : badK (pvK l i) c = (decide ((0 : Int) < (i : Int)) && (Op.bytesLess c.key pc.key || decide (c.key = pc.key))) := by
  cases i with
  | zero => rw [pvK_0]; rfl
  | succ i =>
    have h1 : l[i]? = some pc := h (by omega)
    rw [pvK_s h1]
    have e : decide ((0 : Int) < ((i + 1 : Nat) : Int)) = true := decide_eq_true (by omega)
    rw [e, Bool.true_and]
    rfl

theorem ct_image_Parse (l : List ChangeM) (s : Option Addr) (cap : Nat) (hl : l.length ≤ 1000000) (hll : ∀ c ∈ l, c.key.length ≤ 9223372036854775807 ∧ c.val.length ≤ 9223372036854775807) (F : List HProp) : Ct Tryz.prog 22 [sl s l.length cap] ([tabs, roL 3 s (chR l)] ++ F) (parsR l 89 (tabs :: roL 3 s (chR l) :: F)) := by
  show Ct Tryz.prog 22 [sl s l.length cap] (tabs :: roL 3 s (chR l) :: F) _
  refine Ct.of Tryz.func22 rfl 47 Tryz.ntmps22 (by simp) fun w0 => ?_
  refine g_seq ?_
  refine g_reg ?_
  refine g_v (v_assign rfl) rfl ?_
  refine g_v (v_assign rfl) rfl ?_
  refine g_nil ?_
  refine g_seq ?_
  refine g_reg ?_
  refine g_l (l_call (Pre := []) Tryz.call58 rfl (ct_index_New)) rfl ?_
  rintro _ _ ⟨x, rfl, rfl⟩
  refine g_v (v_build rfl (bldV1 x)) rfl ?_
  refine g_l (l_box #[ptr x 0, sl none ps0.L.length 0, I ps0.n] rfl rfl) rfl ?_
  rintro _ _ ⟨b9, rfl, rfl⟩
  refine g_v (v_assign rfl) rfl ?_
  refine g_nil ?_
  refine g_openX x ⟨fun _ => none, fun _ => none⟩ ?_
  intro p r
  refine g_openP p (fun _ => none) ?_
  intro r2
  refine g_map r (tb encN 999 ps0.N) (by show (tb encN 24 (fun _ => none)).Perm (tb encN 999 (fun _ => none)); rw [tb_empty, tb_empty]) ?_
  refine g_map r2 (tb encB 999 ps0.B) (by show (tb encB 40 (fun _ => none)).Perm (tb encB 999 (fun _ => none)); rw [tb_empty, tb_empty]) ?_
  refine g_nilown 55 4 (ptR ps0.L) rfl ?_
  refine g_shutW b9 x p r r2 none 0 ps0 ?_
  refine g_seq ?_
  refine g_seq ?_
  refine g_reg ?_
  refine g_v (v_move rfl) rfl ?_
  refine g_v (v_len Tryz.underlying33 rfl) rfl ?_
  refine g_v (v_move rfl) rfl ?_
  refine g_nil ?_
  refine g_block ?_
  refine g_loop (α := Nat × PS) (fun z => z.1 ≤ l.length ∧ parsF none ps0 (l.take z.1) = some z.2 ∧ Pok z.2 ∧ z.2.L.length ≤ z.1) (fun z => U [(0, sl s l.length cap), (4, ptr b9 0), (10, sl s l.length cap), (11, I l.length), (12, I z.1)]) (fun z => tabs :: roL 3 s (chR l) :: pvl b9 z.2 :: F) (fun z => l.length - z.1) (0, ps0) ⟨by simp, by simp [parsF], Pok_0, by simp [ps0]⟩ [0, 4, 10, 11, 12] rfl rfl ?_
  rintro ⟨i, st⟩ ⟨hi, hpr, hP, hL⟩
  simp only [] at hi hpr hP hL ⊢
  refine g_seq ?_
  refine g_reg ?_
  refine g_v (v_lss rfl rfl) rfl ?_
  refine g_nil ?_
  refine g_seq ?_
  refine g_cond rfl (fun h13 => ?_) (fun h13 => ?_)
  · simp at h13
    have hin : i < l.length := by omega
    obtain ⟨c, hc⟩ : ∃ c, l[i]? = some c := ⟨_, List.getElem?_eq_getElem hin⟩
    obtain ⟨pc, hpc⟩ : ∃ pc : ChangeM, 0 < i → l[i - 1]? = some pc := ⟨(l[i - 1]?).getD c, fun h => by rw [List.getElem?_eq_getElem (show i - 1 < l.length by omega)]; rfl⟩
    refine g_skip ?_
    refine g_seq ?_
    refine g_block ?_
    refine g_seq ?_
    refine g_reg ?_
    refine g_v (v_move rfl) rfl ?_
    refine g_v (v_idxS i Tryz.underlying33 Tryz.sizeOf58 rfl rfl rfl hin (by rw [chR_len]; exact hin)) rfl ?_
    refine g_v (v_loadAS (row := encC c) Tryz.isAgg58 Tryz.sizeOf58 rfl (chR_at hc) rfl) rfl ?_
    refine g_l (l_alloc #[Str [], Str [], Bo false] Tryz.zeroValue58) rfl ?_
    rintro _ _ ⟨b6, rfl, rfl⟩
    refine g_v (v_assign rfl) rfl ?_
    refine g_l0 (l_storeA (cs := #[Str [], Str [], Bo false]) (vs := encC c) (encC c).toArray Tryz.sizeOf58 rfl rfl rfl rfl (by simp) (splice_whole rfl)) ?_
    rintro _ _ rfl
    refine g_nil ?_
    refine g_seq ?_
    refine g_draw (Lf := [pt b6 (.cells (encC c).toArray 58 (0, 0)), roL 3 s (chR l)]) [(0, false), (1, false), (2, false), (3, false), (4, false), (5, false), (6, false), (7, false), (8, false), (9, false), (10, false), (11, false), (12, false), (13, false), (14, false), (15, false), (16, false), (17, false), (18, false), (19, false), (20, true), (21, false), (22, false)] (by kernel_rfl) (by kernel_rfl) rfl (by kernel_rfl) ?_
    refine d_v rfl (v_move rfl) rfl ?_
    refine d_v rfl (v_gtr rfl rfl) rfl ?_
    refine d_v rfl (v_move rfl) rfl ?_
    refine d_gv rfl rfl rfl (fun hg => v_fieldAddr 0 Tryz.underlying58 rfl rfl Tryz.sizeOf9 (by decide) rfl) rfl rfl ?_
    refine d_gv rfl rfl rfl (fun hg => v_load (v := Str c.key) Tryz.isAgg9 rfl rfl) rfl rfl ?_
    refine d_gv rfl rfl rfl (fun hg => v_move rfl) rfl rfl ?_
    refine d_gv rfl rfl rfl (fun hg => v_move rfl) rfl rfl ?_
    refine d_gv rfl rfl rfl (fun hg => v_sub rfl rfl (w64 (by simp at hg; omega))) rfl rfl ?_
    refine d_gv rfl rfl rfl (fun hg => v_idxS (i - 1) Tryz.underlying33 Tryz.sizeOf58 rfl rfl (by simp at hg; omega) (by simp at hg; omega) (by rw [chR_len]; simp at hg; omega)) rfl rfl ?_
    refine d_gv rfl rfl rfl (fun hg => v_fieldAdrS (j := i - 1) 0 Tryz.underlying58 rfl rfl Tryz.sizeOf9 (by decide) rfl (by rw [chR_len]; simp at hg; omega)) rfl rfl ?_
    refine d_gv rfl rfl rfl (fun hg => v_loadS (v := Str pc.key) Tryz.isAgg9 rfl (chR_at (hpc (by simp at hg; omega))) rfl) rfl rfl ?_
    refine d_gv rfl rfl rfl (fun hg => v_sleq rfl rfl) rfl rfl ?_
    refine d_v rfl (v_and rfl rfl) rfl ?_
    refine d_v rfl (v_move rfl) rfl ?_
    refine d_gv rfl rfl rfl (fun hg => v_fieldAddr 2 Tryz.underlying58 rfl rfl Tryz.sizeOf4 (by decide) rfl) rfl rfl ?_
    refine d_gv rfl rfl rfl (fun hg => v_load (v := Bo c.gone) Tryz.isAgg4 rfl rfl) rfl rfl ?_
    refine d_v rfl (v_or rfl rfl) rfl ?_
    refine d_v rfl (v_move rfl) rfl ?_
    rcases hbd : ((decide ((0 : Int) < (i : Int)) && (Op.bytesLess c.key pc.key || decide (c.key = pc.key))) || c.gone) with _ | _
    · skip
      refine d_gv1 rfl rfl rfl rfl (v_move rfl) rfl ?_
      rcases hrr : rowF st c with _ | st'
      · skip
        refine d_gv1 rfl rfl rfl rfl (v_loadA (vs := encC c) Tryz.isAgg58 Tryz.sizeOf58 rfl rfl arr_ld) rfl ?_
        refine d_gl rfl rfl rfl rfl (l_call (Pre := [tabs, pvl b9 st]) Tryz.call59 rfl (ct_image_row b9 st c (by omega) (hll c (List.mem_of_getElem? hc)).1 (hll c (List.mem_of_getElem? hc)).2)) rfl ?_
        rintro _ _ hrv
        unfold rowR at hrv
        rw [hrr] at hrv
        obtain ⟨rfl, rfl⟩ := hrv
        refine d_gv1 rfl rfl rfl rfl (v_not rfl) rfl ?_
        refine d_v rfl (v_pk2 rfl rfl rfl) rfl ?_
        refine d_nil ?_
        refine g_cond rfl (fun h39 => ?_) (fun h39 => ?_)
        · skip
          refine g_seq ?_
          refine g_reg ?_
          refine g_v (v_iface Tryz.underlying89 rfl rfl) rfl ?_
          refine g_v (v_assign rfl) rfl ?_
          refine g_v (v_assign rfl) rfl ?_
          refine g_nil ?_
          exact g_paNo rfl (fun st' h' => by rw [pars_stop hpr hc (.inr hrr)] at h'; cases h') rfl rfl
        · cases h39
      · skip
        refine d_gv1 rfl rfl rfl rfl (v_loadA (vs := encC c) Tryz.isAgg58 Tryz.sizeOf58 rfl rfl arr_ld) rfl ?_
        refine d_gl rfl rfl rfl rfl (l_call (Pre := [tabs, pvl b9 st]) Tryz.call59 rfl (ct_image_row b9 st c (by omega) (hll c (List.mem_of_getElem? hc)).1 (hll c (List.mem_of_getElem? hc)).2)) rfl ?_
        rintro _ _ hrv
        unfold rowR at hrv
        rw [hrr] at hrv
        obtain ⟨rfl, rfl⟩ := hrv
        refine d_gv1 rfl rfl rfl rfl (v_not rfl) rfl ?_
        refine d_v rfl (v_pk2 rfl rfl rfl) rfl ?_
        refine d_nil ?_
        refine g_cond rfl (fun h39 => ?_) (fun h39 => ?_)
        · cases h39
        · skip
          refine g_skip ?_
          refine g_blk ?_
          refine g_reg ?_
          refine g_v (v_add rfl rfl (w64 (by omega))) rfl ?_
          refine g_v (v_move rfl) rfl ?_
          refine g_nil ?_
          exact g_again (i + 1, st') ⟨by simp only []; omega, pars_step hpr hc (by rw [badK_eq hpc]; simpa using hbd) hrr, Pok_row hP hrr, by have := rowF_L hrr; simp only []; omega⟩ (by simp only []; omega) [0, 4, 10, 11, 12] rfl rfl
    · skip
      refine d_no rfl rfl rfl rfl rfl ?_
      refine d_no rfl rfl rfl rfl rfl ?_
      refine d_noL rfl rfl rfl rfl rfl ?_
      refine d_no rfl rfl rfl rfl rfl ?_
      refine d_v rfl (v_pk1 rfl rfl rfl) rfl ?_
      refine d_nil ?_
      refine g_cond rfl (fun h39 => ?_) (fun h39 => ?_)
      · skip
        refine g_seq ?_
        refine g_reg ?_
        refine g_v (v_iface Tryz.underlying89 rfl rfl) rfl ?_
        refine g_v (v_assign rfl) rfl ?_
        refine g_v (v_assign rfl) rfl ?_
        refine g_nil ?_
        exact g_paNo rfl (fun st' h' => by rw [pars_stop hpr hc (.inl (by rw [badK_eq hpc]; simpa using hbd))] at h'; cases h') rfl rfl
      · cases h39
  · simp at h13
    obtain rfl : i = l.length := by omega
    rw [List.take_length] at hpr
    refine g_exit rfl ?_
    refine g_seq ?_
    refine g_seq ?_
    refine g_reg ?_
    refine g_v (v_move rfl) rfl ?_
    refine g_l (l_call (Pre := [pvl b9 st]) Tryz.call60 rfl (ct_image_whole b9 st hP (by omega))) rfl ?_
    rintro _ _ (⟨rfl, hw, rfl⟩ | ⟨rfl, hw, rfl⟩)
    · skip
      refine g_v (v_not rfl) rfl ?_
      refine g_nil ?_
      refine g_cond rfl (fun h44 => ?_) (fun h44 => ?_)
      · cases h44
      · skip
        refine g_skip ?_
        refine g_seq ?_
        refine g_reg ?_
        refine g_v (v_move rfl) rfl ?_
        refine g_v (v_assign rfl) rfl ?_
        refine g_v (v_assign rfl) rfl ?_
        refine g_nil ?_
        exact g_paYes rfl hpr hw rfl rfl
    · skip
      refine g_v (v_not rfl) rfl ?_
      refine g_nil ?_
      refine g_cond rfl (fun h44 => ?_) (fun h44 => ?_)
      · skip
        refine g_seq ?_
        refine g_reg ?_
        refine g_v (v_iface Tryz.underlying89 rfl rfl) rfl ?_
        refine g_v (v_assign rfl) rfl ?_
        refine g_v (v_assign rfl) rfl ?_
        refine g_nil ?_
        exact g_paNo rfl (fun st' h' => by rw [hpr] at h'; injection h' with h'; rw [← h']; exact hw) rfl rfl
      · cases h44

end Go.Proofs.YthdjckbjjfiopacGreatDoor
