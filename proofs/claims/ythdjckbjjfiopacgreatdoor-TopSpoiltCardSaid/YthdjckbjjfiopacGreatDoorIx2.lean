/- Walks through package index: Get, Set, Copy, Diff, Numbers. No condition. -/
import Derived.Test.YthdjckbjjfiopacGreatDoorIx
namespace Go.Proofs.YthdjckbjjfiopacGreatDoor
open Go.Sl Go.Proofs
set_option linter.unusedVariables false
set_option linter.unusedSimpArgs false
theorem quo4 (a : Nat) (h : a < 16) : IntKind.i64.wrap ((a : Int).tdiv 4) = ((a / 4 : Nat) : Int) := by
  rw [show ((a : Int).tdiv 4) = ((a / 4 : Nat) : Int) from rfl]; exact w64 (by omega)
theorem rem4 (a : Nat) : (a : Int).tmod 4 = ((a % 4 : Nat) : Int) := rfl
theorem ndC_kids (n : Nd) : (ndC n).toArray.extract 0 (0 + 4) = (kdC n).toArray := by simp
theorem nodeE_sm (S : SI) (n : Nd) : 0 ≤ (nodeE S n).1 ∧ (nodeE S n).1 ≤ 24 := by
  unfold nodeE
  split
  · simp
  · cases h : freeId 24 S.N with
    | none => simp
    | some k => have := (free_some h).1; simp; omega
theorem kset_kat (n : Nd) (x : Int) : ∀ i j, i < 4 → j < 4 → kat (kset n i x) j = if j = i then x else kat n j := by
  intro i j hi hj
  match i, j, hi, hj with
  | 0, 0, _, _ | 0, 1, _, _ | 0, 2, _, _ | 0, 3, _, _ | 1, 0, _, _ | 1, 1, _, _ | 1, 2, _, _ | 1, 3, _, _ | 2, 0, _, _ | 2, 1, _, _ | 2, 2, _, _ | 2, 3, _, _ | 3, 0, _, _ | 3, 1, _, _ | 3, 2, _, _ | 3, 3, _, _ => rfl
  | i + 4, j, h, _ => omega
  | 0, j + 4, _, h | 1, j + 4, _, h | 2, j + 4, _, h | 3, j + 4, _, h => omega
theorem kdC_st {n : Nd} {x : Int} {o i : Nat} (hi : i < 4) (ho : o = i) : (kdC n).toArray.setIfInBounds o (I x) = (kdC (kset n i x)).toArray := by
  subst ho
  rw [set_toArray, kdC_set n x o hi]

theorem ct_index_Index_Get (b : Nat) (S : SI) (root : Int) (at_ : Nat) (m : Int) (hok : okS m S) (hm : m ≤ 1000000) (hat : at_ < 16) (F : List HProp) : Ct Tryz.prog 68 [ptr b 0, I root, I at_] ([ixl b S] ++ F) (R1 (Str (getS S root at_)) (ixl b S :: F)) := by
  show Ct Tryz.prog 68 [ptr b 0, I root, I at_] (ixl b S :: F) _
  refine Ct.of Tryz.func68 rfl 39 Tryz.ntmps68 (by simp) fun w0 => ?_
  refine g_openX b (S) ?_
  intro p r
  refine g_seq ?_
  refine g_reg ?_
  refine g_v (v_assign rfl) rfl ?_
  refine g_nil ?_
  refine g_seq ?_
  refine g_reg ?_
  refine g_v (v_move rfl) rfl ?_
  refine g_v (v_nilCheck rfl) rfl ?_
  refine g_v (v_fieldAddr 1 Tryz.underlying43 rfl rfl Tryz.sizeOf41 (by decide) rfl) rfl ?_
  refine g_v (v_load (v := .map (some r)) Tryz.isAgg41 rfl rfl) rfl ?_
  refine g_v (v_move rfl) rfl ?_
  refine g_v (v_lookup (v := encN (gN S.N (root))) Tryz.underlying41 Tryz.underlying3 Tryz.zeroValue99 rfl rfl (lkN hok.2.2.1 _)) rfl ?_
  refine g_v (v_fieldA (kdC (gN S.N root)) Tryz.underlying99 rfl Tryz.isAgg97 Tryz.sizeOf97 rfl (ndC_kids _)) rfl ?_
  refine g_v (v_move rfl) rfl ?_
  refine g_v (v_quo rfl rfl (by decide) (quo4 at_ hat)) rfl ?_
  refine g_v (v_index (v := I (kat (gN S.N root) (at_ / 4))) (at_ / 4) Tryz.underlying97 Tryz.sizeOf3 Tryz.isAgg3 rfl rfl rfl (by omega) (by simpa using kdC_at (gN S.N root) (at_ / 4) (by omega))) rfl ?_
  refine g_v (v_assign rfl) rfl ?_
  refine g_nil ?_
  refine g_seq ?_
  refine g_draw (Lf := [pt b (.cells #[ptr p 0, .map (some r)] 43 (0, 0)), mp r (tb encN 24 S.N)]) [(0, false), (1, false), (2, false), (3, false), (4, false), (5, false), (6, false), (7, false), (8, false), (9, false), (10, false), (11, false), (12, false), (13, false), (14, true), (15, false), (16, false), (17, false), (18, false), (19, false)] (by kernel_rfl) (by kernel_rfl) rfl (by kernel_rfl) ?_
  refine d_v rfl (v_move rfl) rfl ?_
  refine d_v rfl (v_nilCheck rfl) rfl ?_
  refine d_v rfl (v_fieldAddr 0 Tryz.underlying43 rfl rfl Tryz.sizeOf40 (by decide) rfl) rfl ?_
  refine d_v rfl (v_load (v := ptr p 0) Tryz.isAgg40 rfl rfl) rfl ?_
  refine d_v rfl (v_move rfl) rfl ?_
  refine d_v rfl (v_nilCheck rfl) rfl ?_
  refine d_v rfl (v_fieldAddr 1 Tryz.underlying43 rfl rfl Tryz.sizeOf41 (by decide) rfl) rfl ?_
  refine d_v rfl (v_load (v := .map (some r)) Tryz.isAgg41 rfl rfl) rfl ?_
  refine d_v rfl (v_move rfl) rfl ?_
  refine d_v rfl (v_lookup (v := encN (gN S.N (kat (gN S.N root) (at_ / 4)))) Tryz.underlying41 Tryz.underlying3 Tryz.zeroValue99 rfl rfl (lkN hok.2.2.1 _)) rfl ?_
  refine d_v rfl (v_fieldA (kdC (gN S.N (kat (gN S.N root) (at_ / 4)))) Tryz.underlying99 rfl Tryz.isAgg97 Tryz.sizeOf97 rfl (ndC_kids _)) rfl ?_
  refine d_v rfl (v_move rfl) rfl ?_
  refine d_v rfl (v_rem rfl rfl (by decide) (rem4 at_)) rfl ?_
  refine d_v rfl (v_index (v := I (kat (gN S.N (kat (gN S.N root) (at_ / 4))) (at_ % 4))) (at_ % 4) Tryz.underlying97 Tryz.sizeOf3 Tryz.isAgg3 rfl rfl rfl (Nat.mod_lt _ (by decide)) (by simpa using kdC_at (gN S.N (kat (gN S.N root) (at_ / 4))) (at_ % 4) (Nat.mod_lt _ (by decide)))) rfl ?_
  refine d_l rfl (l_call (Pre := [plb p S.B]) Tryz.call98 rfl (ct_pool_Pool_Get p S.B (kat (gN S.N (kat (gN S.N root) (at_ / 4))) (at_ % 4)) (okS_okB hok hm))) rfl ?_
  rintro _ _ ⟨rfl, rfl⟩
  refine d_v rfl (v_move rfl) rfl ?_
  refine d_v rfl (v_extract (v := Str (getS S root at_)) rfl rfl) rfl ?_
  refine d_v rfl (v_extract (v := errT 89 (getP S.B (kat (gN S.N (kat (gN S.N root) (at_ / 4))) (at_ % 4))).2) rfl rfl) rfl ?_
  refine d_v rfl (v_assign rfl) rfl ?_
  refine d_v rfl (v_assign rfl) rfl ?_
  refine d_nil ?_
  refine g_seq ?_
  refine g_reg ?_
  refine g_v (v_move rfl) rfl ?_
  refine g_v (v_assign rfl) rfl ?_
  refine g_nil ?_
  refine g_shutX p r b (S) (.refl _) ?_
  exact g_ret1 rfl rfl rfl

theorem ct_index_Index_Set (b : Nat) (S : SI) (root : Int) (at_ : Nat) (d : Bytes) (m : Int) (hok : okS m S) (hm : 1 ≤ m ∧ m ≤ 800000) (hat : at_ < 16) (hd : d.length ≤ 9223372036854775807) (hk : ∀ i, i < 4 → 0 ≤ kat (gN S.N root) i ∧ kat (gN S.N root) i ≤ 24) (F : List HProp) : Ct Tryz.prog 77 [ptr b 0, I root, I at_, Str d] ([ixl b S] ++ F) (R1 (.tuple #[I (setE S root at_ d).1, errT 89 (setE S root at_ d).2]) (ixl b (setS S root at_ d) :: F)) := by
  show Ct Tryz.prog 77 [ptr b 0, I root, I at_, Str d] (ixl b S :: F) _
  have hok1 := okS_block hok hm.1 d
  have hN1 : (blockS S d).N = S.N := by unfold blockS; split <;> rfl
  have hok2 : okS (m + 4) (nodeS true (blockS S d) (setL (blockS S d) root at_ (blockE S d).1)) := okS_node hok1 hm.1 (fun h => by cases h)
  have hok3 : okS (m + 4) (unB (nodeS true (blockS S d) (setL (blockS S d) root at_ (blockE S d).1)) (blockE S d).1) := okS_unB hok2 _
  have hk3 : ∀ i, i < 4 → 0 ≤ kat (setR (blockS S d) root at_ (nodeE (blockS S d) (setL (blockS S d) root at_ (blockE S d).1)).1) i ∧ kat (setR (blockS S d) root at_ (nodeE (blockS S d) (setL (blockS S d) root at_ (blockE S d).1)).1) i ≤ 24 := fun i hi => by
    unfold setR
    rw [kset_kat _ _ _ _ (by omega) hi, hN1]
    split
    · exact nodeE_sm _ _
    · exact hk i hi
  have hok4 : okS (m + 4 + 4) (nodeS false (unB (nodeS true (blockS S d) (setL (blockS S d) root at_ (blockE S d).1)) (blockE S d).1) (setR (blockS S d) root at_ (nodeE (blockS S d) (setL (blockS S d) root at_ (blockE S d).1)).1)) := okS_node hok3 (by omega) (fun _ => hk3)
  refine Ct.of Tryz.func77 rfl 80 Tryz.ntmps77 (by simp) fun w0 => ?_
  refine g_seq ?_
  refine g_reg ?_
  refine g_v (v_assign rfl) rfl ?_
  refine g_v (v_assign rfl) rfl ?_
  refine g_nil ?_
  refine g_seq ?_
  refine g_reg ?_
  refine g_v (v_move rfl) rfl ?_
  refine g_v (v_move rfl) rfl ?_
  refine g_l (l_call (Pre := [ixl b S]) Tryz.call108 rfl (ct_index_Index_block b S d m hok (by omega) hd)) rfl ?_
  rintro _ _ ⟨rfl, rfl⟩
  refine g_v (v_move rfl) rfl ?_
  refine g_v (v_extract (v := I (blockE S d).1) rfl rfl) rfl ?_
  refine g_v (v_extract (v := errT 89 (blockE S d).2) rfl rfl) rfl ?_
  refine g_v (v_assign rfl) rfl ?_
  refine g_v (v_assign rfl) rfl ?_
  refine g_nil ?_
  refine g_seq ?_
  refine g_seq ?_
  refine g_reg ?_
  refine g_v (v_move rfl) rfl ?_
  refine g_v (v_ineq Tryz.underlying29 rfl) rfl ?_
  refine g_nil ?_
  refine g_cond rfl (fun h23 => ?_) (fun h23 => ?_)
  · simp at h23
    refine g_seq ?_
    refine g_reg ?_
    refine g_v (v_move rfl) rfl ?_
    refine g_v (v_assign rfl) rfl ?_
    refine g_v (v_assign rfl) rfl ?_
    refine g_nil ?_
    rw [show setE S root at_ d = (0, (blockE S d).2) by unfold setE; simp only; rw [if_pos h23], show setS S root at_ d = (blockS S d) by unfold setS; simp only; rw [if_pos h23]]
    exact g_ret1 rfl rfl rfl
  · simp at h23
    refine g_skip ?_
    refine g_seq ?_
    refine g_openX b ((blockS S d)) ?_
    intro p r
    refine g_reg ?_
    refine g_v (v_move rfl) rfl ?_
    refine g_v (v_nilCheck rfl) rfl ?_
    refine g_v (v_fieldAddr 1 Tryz.underlying43 rfl rfl Tryz.sizeOf41 (by decide) rfl) rfl ?_
    refine g_v (v_load (v := .map (some r)) Tryz.isAgg41 rfl rfl) rfl ?_
    refine g_v (v_move rfl) rfl ?_
    refine g_v (v_lookup (v := encN (gN (blockS S d).N (root))) Tryz.underlying41 Tryz.underlying3 Tryz.zeroValue99 rfl rfl (lkN hok1.2.2.1 _)) rfl ?_
    refine g_v (v_fieldA (kdC (gN (blockS S d).N root)) Tryz.underlying99 rfl Tryz.isAgg97 Tryz.sizeOf97 rfl (ndC_kids _)) rfl ?_
    refine g_l (l_alloc #[I 0, I 0, I 0, I 0] Tryz.zeroValue97) rfl ?_
    rintro _ _ ⟨b12, rfl, rfl⟩
    refine g_l0 (l_storeA (cs := #[I 0, I 0, I 0, I 0]) (vs := kdC (gN (blockS S d).N root)) (kdC (gN (blockS S d).N root)).toArray Tryz.sizeOf97 rfl rfl rfl rfl (by simp) (splice_whole rfl)) ?_
    rintro _ _ rfl
    refine g_nil ?_
    refine g_seq ?_
    refine g_draw (Lf := [pt b (.cells #[ptr p 0, .map (some r)] 43 (0, 0)), mp r (tb encN 24 (blockS S d).N), pt b12 (.cells (kdC (gN (blockS S d).N root)).toArray 97 (0, 0))]) [(0, false), (1, false), (2, false), (3, false), (4, false), (5, false), (6, false), (7, false), (8, false), (9, false), (10, true), (11, true)] (by kernel_rfl) (by kernel_rfl) rfl (by kernel_rfl) ?_
    refine d_v rfl (v_move rfl) rfl ?_
    refine d_v rfl (v_nilCheck rfl) rfl ?_
    refine d_v rfl (v_fieldAddr 1 Tryz.underlying43 rfl rfl Tryz.sizeOf41 (by decide) rfl) rfl ?_
    refine d_v rfl (v_load (v := .map (some r)) Tryz.isAgg41 rfl rfl) rfl ?_
    refine d_v rfl (v_move rfl) rfl ?_
    refine d_v rfl (v_quo rfl rfl (by decide) (quo4 at_ hat)) rfl ?_
    refine d_v rfl (v_idxA (at_ / 4) Tryz.underlying97 Tryz.sizeOf3 rfl rfl rfl (by omega)) rfl ?_
    refine d_v rfl (v_load (v := I (kat (gN (blockS S d).N root) (at_ / 4))) Tryz.isAgg3 rfl (by simpa [objCell] using kdC_at (gN (blockS S d).N root) (at_ / 4) (by omega))) rfl ?_
    refine d_v rfl (v_lookup (v := encN (gN (blockS S d).N (kat (gN (blockS S d).N root) (at_ / 4)))) Tryz.underlying41 Tryz.underlying3 Tryz.zeroValue99 rfl rfl (lkN hok1.2.2.1 _)) rfl ?_
    refine d_v rfl (v_fieldA (kdC (gN (blockS S d).N (kat (gN (blockS S d).N root) (at_ / 4)))) Tryz.underlying99 rfl Tryz.isAgg97 Tryz.sizeOf97 rfl (ndC_kids _)) rfl ?_
    refine d_l rfl (l_alloc #[I 0, I 0, I 0, I 0] Tryz.zeroValue97) rfl ?_
    rintro _ _ ⟨b13, rfl, rfl⟩
    refine d_l0 rfl (l_storeA (cs := #[I 0, I 0, I 0, I 0]) (vs := kdC (gN (blockS S d).N (kat (gN (blockS S d).N root) (at_ / 4)))) (kdC (gN (blockS S d).N (kat (gN (blockS S d).N root) (at_ / 4)))).toArray Tryz.sizeOf97 rfl rfl rfl rfl (by simp) (splice_whole rfl)) ?_
    rintro _ _ rfl
    refine d_nil ?_
    refine g_seq ?_
    refine g_reg ?_
    refine g_v (v_move rfl) rfl ?_
    refine g_v (v_rem rfl rfl (by decide) (rem4 at_)) rfl ?_
    refine g_v (v_move rfl) rfl ?_
    refine g_v (v_idxA (at_ % 4) Tryz.underlying97 Tryz.sizeOf3 rfl rfl rfl (Nat.mod_lt _ (by decide))) rfl ?_
    refine g_l0 (l_store (kdC (setL (blockS S d) root at_ (blockE S d).1)).toArray Tryz.sizeOf3 rfl rfl rfl (by simp; omega) (kdC_st (Nat.mod_lt _ (by decide)) (by omega))) ?_
    rintro _ _ rfl
    refine g_nil ?_
    refine g_seq ?_
    refine g_shutX p r b ((blockS S d)) (.refl _) ?_
    refine g_reg ?_
    refine g_v (v_move rfl) rfl ?_
    refine g_v (v_loadA (vs := kdC (setL (blockS S d) root at_ (blockE S d).1)) Tryz.isAgg97 Tryz.sizeOf97 rfl rfl arr_ld) rfl ?_
    refine g_l (l_call (Pre := [ixl b (blockS S d)]) Tryz.call109 rfl (ct_index_Index_node b (blockS S d) (setL (blockS S d) root at_ (blockE S d).1) true m hok1 (by omega) (fun h => by cases h))) rfl ?_
    rintro _ _ ⟨rfl, rfl⟩
    refine g_v (v_move rfl) rfl ?_
    refine g_v (v_extract (v := I (nodeE (blockS S d) (setL (blockS S d) root at_ (blockE S d).1)).1) rfl rfl) rfl ?_
    refine g_v (v_extract (v := errT 89 (nodeE (blockS S d) (setL (blockS S d) root at_ (blockE S d).1)).2) rfl rfl) rfl ?_
    refine g_v (v_assign rfl) rfl ?_
    refine g_v (v_assign rfl) rfl ?_
    refine g_nil ?_
    refine g_seq ?_
    refine g_seq ?_
    refine g_reg ?_
    refine g_v (v_move rfl) rfl ?_
    refine g_v (v_ineq Tryz.underlying29 rfl) rfl ?_
    refine g_nil ?_
    refine g_cond rfl (fun h53 => ?_) (fun h53 => ?_)
    · simp at h53
      refine g_seq ?_
      refine g_reg ?_
      refine g_v (v_move rfl) rfl ?_
      refine g_v (v_assign rfl) rfl ?_
      refine g_v (v_assign rfl) rfl ?_
      refine g_nil ?_
      rw [show setE S root at_ d = (0, (nodeE (blockS S d) (setL (blockS S d) root at_ (blockE S d).1)).2) by unfold setE; simp only; rw [if_neg (by omega), if_pos h53], show setS S root at_ d = (nodeS true (blockS S d) (setL (blockS S d) root at_ (blockE S d).1)) by unfold setS; simp only; rw [if_neg (by omega), if_pos h53]]
      exact g_ret1 rfl rfl rfl
    · simp at h53
      refine g_skip ?_
      refine g_seq ?_
      refine g_seq ?_
      refine g_reg ?_
      refine g_v (v_move rfl) rfl ?_
      refine g_v (v_gtr rfl rfl) rfl ?_
      refine g_nil ?_
      refine g_cond rfl (fun h56 => ?_) (fun h56 => ?_)
      · simp at h56
        refine g_openX b ((nodeS true (blockS S d) (setL (blockS S d) root at_ (blockE S d).1))) ?_
        intro p2 r2
        refine g_reg ?_
        refine g_v (v_move rfl) rfl ?_
        refine g_v (v_nilCheck rfl) rfl ?_
        refine g_v (v_fieldAddr 0 Tryz.underlying43 rfl rfl Tryz.sizeOf40 (by decide) rfl) rfl ?_
        refine g_v (v_load (v := ptr p2 0) Tryz.isAgg40 rfl rfl) rfl ?_
        refine g_v (v_move rfl) rfl ?_
        refine g_l (l_call (Pre := [plb p2 (nodeS true (blockS S d) (setL (blockS S d) root at_ (blockE S d).1)).B]) Tryz.call110 rfl (ct_pool_Pool_Unref p2 (nodeS true (blockS S d) (setL (blockS S d) root at_ (blockE S d).1)).B (blockE S d).1 (okS_okB hok2 (by omega)))) rfl ?_
        rintro _ _ ⟨rfl, rfl⟩
        refine g_nil ?_
        refine g_shutX p2 r2 b (⟨refB (nodeS true (blockS S d) (setL (blockS S d) root at_ (blockE S d).1)).B (blockE S d).1 (-1), (nodeS true (blockS S d) (setL (blockS S d) root at_ (blockE S d).1)).N⟩) (.refl _) ?_
        rw [show (⟨refB (nodeS true (blockS S d) (setL (blockS S d) root at_ (blockE S d).1)).B (blockE S d).1 (-1), (nodeS true (blockS S d) (setL (blockS S d) root at_ (blockE S d).1)).N⟩ : SI) = (unB (nodeS true (blockS S d) (setL (blockS S d) root at_ (blockE S d).1)) (blockE S d).1) by unfold unB; rw [if_pos h56]]
        refine g_seq ?_
        refine g_reg ?_
        refine g_v (v_move rfl) rfl ?_
        refine g_v (v_quo rfl rfl (by decide) (quo4 at_ hat)) rfl ?_
        refine g_v (v_move rfl) rfl ?_
        refine g_v (v_idxA (at_ / 4) Tryz.underlying97 Tryz.sizeOf3 rfl rfl rfl (by omega)) rfl ?_
        refine g_l0 (l_store (kdC (setR (blockS S d) root at_ (nodeE (blockS S d) (setL (blockS S d) root at_ (blockE S d).1)).1)).toArray Tryz.sizeOf3 rfl rfl rfl (by simp; omega) (kdC_st (by omega) (by omega))) ?_
        rintro _ _ rfl
        refine g_nil ?_
        refine g_seq ?_
        refine g_reg ?_
        refine g_v (v_move rfl) rfl ?_
        refine g_v (v_loadA (vs := kdC (setR (blockS S d) root at_ (nodeE (blockS S d) (setL (blockS S d) root at_ (blockE S d).1)).1)) Tryz.isAgg97 Tryz.sizeOf97 rfl rfl arr_ld) rfl ?_
        refine g_l (l_call (Pre := [ixl b (unB (nodeS true (blockS S d) (setL (blockS S d) root at_ (blockE S d).1)) (blockE S d).1)]) Tryz.call109 rfl (ct_index_Index_node b (unB (nodeS true (blockS S d) (setL (blockS S d) root at_ (blockE S d).1)) (blockE S d).1) (setR (blockS S d) root at_ (nodeE (blockS S d) (setL (blockS S d) root at_ (blockE S d).1)).1) false (m + 4) hok3 (by omega) (fun _ => hk3))) rfl ?_
        rintro _ _ ⟨rfl, rfl⟩
        refine g_v (v_move rfl) rfl ?_
        refine g_v (v_extract (v := I (nodeE (unB (nodeS true (blockS S d) (setL (blockS S d) root at_ (blockE S d).1)) (blockE S d).1) (setR (blockS S d) root at_ (nodeE (blockS S d) (setL (blockS S d) root at_ (blockE S d).1)).1)).1) rfl rfl) rfl ?_
        refine g_v (v_extract (v := errT 89 (nodeE (unB (nodeS true (blockS S d) (setL (blockS S d) root at_ (blockE S d).1)) (blockE S d).1) (setR (blockS S d) root at_ (nodeE (blockS S d) (setL (blockS S d) root at_ (blockE S d).1)).1)).2) rfl rfl) rfl ?_
        refine g_v (v_assign rfl) rfl ?_
        refine g_v (v_assign rfl) rfl ?_
        refine g_nil ?_
        refine g_seq ?_
        refine g_seq ?_
        refine g_reg ?_
        refine g_v (v_move rfl) rfl ?_
        refine g_v (v_ineq Tryz.underlying29 rfl) rfl ?_
        refine g_nil ?_
        refine g_cond rfl (fun h74 => ?_) (fun h74 => ?_)
        · simp at h74
          refine g_seq ?_
          refine g_reg ?_
          refine g_v (v_move rfl) rfl ?_
          refine g_v (v_assign rfl) rfl ?_
          refine g_v (v_assign rfl) rfl ?_
          refine g_nil ?_
          rw [show setE S root at_ d = (0, (nodeE (unB (nodeS true (blockS S d) (setL (blockS S d) root at_ (blockE S d).1)) (blockE S d).1) (setR (blockS S d) root at_ (nodeE (blockS S d) (setL (blockS S d) root at_ (blockE S d).1)).1)).2) by unfold setE; simp only; rw [if_neg (by omega), if_neg (by omega), if_pos h74], show setS S root at_ d = (nodeS false (unB (nodeS true (blockS S d) (setL (blockS S d) root at_ (blockE S d).1)) (blockE S d).1) (setR (blockS S d) root at_ (nodeE (blockS S d) (setL (blockS S d) root at_ (blockE S d).1)).1)) by unfold setS; simp only; rw [if_neg (by omega), if_neg (by omega), if_pos h74]]
          exact g_ret1 rfl rfl rfl
        · simp at h74
          refine g_skip ?_
          refine g_seq ?_
          refine g_reg ?_
          refine g_v (v_move rfl) rfl ?_
          refine g_v (v_move rfl) rfl ?_
          refine g_l (l_call (Pre := [ixl b (nodeS false (unB (nodeS true (blockS S d) (setL (blockS S d) root at_ (blockE S d).1)) (blockE S d).1) (setR (blockS S d) root at_ (nodeE (blockS S d) (setL (blockS S d) root at_ (blockE S d).1)).1))]) Tryz.call84 rfl (ct_index_unrefL b (nodeS false (unB (nodeS true (blockS S d) (setL (blockS S d) root at_ (blockE S d).1)) (blockE S d).1) (setR (blockS S d) root at_ (nodeE (blockS S d) (setL (blockS S d) root at_ (blockE S d).1)).1)) (nodeE (blockS S d) (setL (blockS S d) root at_ (blockE S d).1)).1 (m + 4 + 4) hok4 (by omega))) rfl ?_
          rintro _ _ ⟨rfl, rfl⟩
          refine g_nil ?_
          refine g_seq ?_
          refine g_reg ?_
          refine g_v (v_move rfl) rfl ?_
          refine g_v (v_assign rfl) rfl ?_
          refine g_v (v_assign rfl) rfl ?_
          refine g_nil ?_
          rw [show setE S root at_ d = ((nodeE (unB (nodeS true (blockS S d) (setL (blockS S d) root at_ (blockE S d).1)) (blockE S d).1) (setR (blockS S d) root at_ (nodeE (blockS S d) (setL (blockS S d) root at_ (blockE S d).1)).1)).1, 0) by unfold setE; simp only; rw [if_neg (by omega), if_neg (by omega), if_neg (by omega)], show setS S root at_ d = unL (nodeS false (unB (nodeS true (blockS S d) (setL (blockS S d) root at_ (blockE S d).1)) (blockE S d).1) (setR (blockS S d) root at_ (nodeE (blockS S d) (setL (blockS S d) root at_ (blockE S d).1)).1)) (nodeE (blockS S d) (setL (blockS S d) root at_ (blockE S d).1)).1 by unfold setS; simp only; rw [if_neg (by omega), if_neg (by omega), if_neg (by omega)]]
          exact g_ret1 rfl rfl rfl
      · simp at h56
        rw [show ixl b (nodeS true (blockS S d) (setL (blockS S d) root at_ (blockE S d).1)) = ixl b (unB (nodeS true (blockS S d) (setL (blockS S d) root at_ (blockE S d).1)) (blockE S d).1) by unfold unB; rw [if_neg (by omega)]]
        refine g_skip ?_
        refine g_seq ?_
        refine g_reg ?_
        refine g_v (v_move rfl) rfl ?_
        refine g_v (v_quo rfl rfl (by decide) (quo4 at_ hat)) rfl ?_
        refine g_v (v_move rfl) rfl ?_
        refine g_v (v_idxA (at_ / 4) Tryz.underlying97 Tryz.sizeOf3 rfl rfl rfl (by omega)) rfl ?_
        refine g_l0 (l_store (kdC (setR (blockS S d) root at_ (nodeE (blockS S d) (setL (blockS S d) root at_ (blockE S d).1)).1)).toArray Tryz.sizeOf3 rfl rfl rfl (by simp; omega) (kdC_st (by omega) (by omega))) ?_
        rintro _ _ rfl
        refine g_nil ?_
        refine g_seq ?_
        refine g_reg ?_
        refine g_v (v_move rfl) rfl ?_
        refine g_v (v_loadA (vs := kdC (setR (blockS S d) root at_ (nodeE (blockS S d) (setL (blockS S d) root at_ (blockE S d).1)).1)) Tryz.isAgg97 Tryz.sizeOf97 rfl rfl arr_ld) rfl ?_
        refine g_l (l_call (Pre := [ixl b (unB (nodeS true (blockS S d) (setL (blockS S d) root at_ (blockE S d).1)) (blockE S d).1)]) Tryz.call109 rfl (ct_index_Index_node b (unB (nodeS true (blockS S d) (setL (blockS S d) root at_ (blockE S d).1)) (blockE S d).1) (setR (blockS S d) root at_ (nodeE (blockS S d) (setL (blockS S d) root at_ (blockE S d).1)).1) false (m + 4) hok3 (by omega) (fun _ => hk3))) rfl ?_
        rintro _ _ ⟨rfl, rfl⟩
        refine g_v (v_move rfl) rfl ?_
        refine g_v (v_extract (v := I (nodeE (unB (nodeS true (blockS S d) (setL (blockS S d) root at_ (blockE S d).1)) (blockE S d).1) (setR (blockS S d) root at_ (nodeE (blockS S d) (setL (blockS S d) root at_ (blockE S d).1)).1)).1) rfl rfl) rfl ?_
        refine g_v (v_extract (v := errT 89 (nodeE (unB (nodeS true (blockS S d) (setL (blockS S d) root at_ (blockE S d).1)) (blockE S d).1) (setR (blockS S d) root at_ (nodeE (blockS S d) (setL (blockS S d) root at_ (blockE S d).1)).1)).2) rfl rfl) rfl ?_
        refine g_v (v_assign rfl) rfl ?_
        refine g_v (v_assign rfl) rfl ?_
        refine g_nil ?_
        refine g_seq ?_
        refine g_seq ?_
        refine g_reg ?_
        refine g_v (v_move rfl) rfl ?_
        refine g_v (v_ineq Tryz.underlying29 rfl) rfl ?_
        refine g_nil ?_
        refine g_cond rfl (fun h74 => ?_) (fun h74 => ?_)
        · simp at h74
          refine g_seq ?_
          refine g_reg ?_
          refine g_v (v_move rfl) rfl ?_
          refine g_v (v_assign rfl) rfl ?_
          refine g_v (v_assign rfl) rfl ?_
          refine g_nil ?_
          rw [show setE S root at_ d = (0, (nodeE (unB (nodeS true (blockS S d) (setL (blockS S d) root at_ (blockE S d).1)) (blockE S d).1) (setR (blockS S d) root at_ (nodeE (blockS S d) (setL (blockS S d) root at_ (blockE S d).1)).1)).2) by unfold setE; simp only; rw [if_neg (by omega), if_neg (by omega), if_pos h74], show setS S root at_ d = (nodeS false (unB (nodeS true (blockS S d) (setL (blockS S d) root at_ (blockE S d).1)) (blockE S d).1) (setR (blockS S d) root at_ (nodeE (blockS S d) (setL (blockS S d) root at_ (blockE S d).1)).1)) by unfold setS; simp only; rw [if_neg (by omega), if_neg (by omega), if_pos h74]]
          exact g_ret1 rfl rfl rfl
        · simp at h74
          refine g_skip ?_
          refine g_seq ?_
          refine g_reg ?_
          refine g_v (v_move rfl) rfl ?_
          refine g_v (v_move rfl) rfl ?_
          refine g_l (l_call (Pre := [ixl b (nodeS false (unB (nodeS true (blockS S d) (setL (blockS S d) root at_ (blockE S d).1)) (blockE S d).1) (setR (blockS S d) root at_ (nodeE (blockS S d) (setL (blockS S d) root at_ (blockE S d).1)).1))]) Tryz.call84 rfl (ct_index_unrefL b (nodeS false (unB (nodeS true (blockS S d) (setL (blockS S d) root at_ (blockE S d).1)) (blockE S d).1) (setR (blockS S d) root at_ (nodeE (blockS S d) (setL (blockS S d) root at_ (blockE S d).1)).1)) (nodeE (blockS S d) (setL (blockS S d) root at_ (blockE S d).1)).1 (m + 4 + 4) hok4 (by omega))) rfl ?_
          rintro _ _ ⟨rfl, rfl⟩
          refine g_nil ?_
          refine g_seq ?_
          refine g_reg ?_
          refine g_v (v_move rfl) rfl ?_
          refine g_v (v_assign rfl) rfl ?_
          refine g_v (v_assign rfl) rfl ?_
          refine g_nil ?_
          rw [show setE S root at_ d = ((nodeE (unB (nodeS true (blockS S d) (setL (blockS S d) root at_ (blockE S d).1)) (blockE S d).1) (setR (blockS S d) root at_ (nodeE (blockS S d) (setL (blockS S d) root at_ (blockE S d).1)).1)).1, 0) by unfold setE; simp only; rw [if_neg (by omega), if_neg (by omega), if_neg (by omega)], show setS S root at_ d = unL (nodeS false (unB (nodeS true (blockS S d) (setL (blockS S d) root at_ (blockE S d).1)) (blockE S d).1) (setR (blockS S d) root at_ (nodeE (blockS S d) (setL (blockS S d) root at_ (blockE S d).1)).1)) (nodeE (blockS S d) (setL (blockS S d) root at_ (blockE S d).1)).1 by unfold setS; simp only; rw [if_neg (by omega), if_neg (by omega), if_neg (by omega)]]
          exact g_ret1 rfl rfl rfl

theorem ct_index_Index_Copy (b : Nat) (S : SI) (F : List HProp) : Ct Tryz.prog 44 [ptr b 0] ([ixl b S] ++ F) (fun v L' => ∃ q, v = ptr q 0 ∧ L' = ixl q S :: ixl b S :: F) := by
  show Ct Tryz.prog 44 [ptr b 0] (ixl b S :: F) _
  refine Ct.of Tryz.func44 rfl 31 Tryz.ntmps44 (by simp) fun w0 => ?_
  refine g_openX b (S) ?_
  intro p r
  refine g_seq ?_
  refine g_reg ?_
  refine g_v (v_assign rfl) rfl ?_
  refine g_nil ?_
  refine g_seq ?_
  refine g_reg ?_
  refine g_v (v_move rfl) rfl ?_
  refine g_v (v_nilCheck rfl) rfl ?_
  refine g_v (v_fieldAddr 0 Tryz.underlying43 rfl rfl Tryz.sizeOf40 (by decide) rfl) rfl ?_
  refine g_v (v_load (v := ptr p 0) Tryz.isAgg40 rfl rfl) rfl ?_
  refine g_l (l_call (Pre := [plb p S.B]) Tryz.call78 rfl (ct_pool_Pool_Copy p S.B)) rfl ?_
  rintro _ _ ⟨p2, rfl, rfl⟩
  refine g_l (l_makeMap) rfl ?_
  rintro _ _ ⟨b11, rfl, rfl⟩
  refine g_v (v_build rfl (bld43_0_1 _ rfl _ rfl)) rfl ?_
  refine g_l (l_box #[ptr p2 0, .map (some b11)] rfl rfl) rfl ?_
  rintro _ _ ⟨b13, rfl, rfl⟩
  refine g_v (v_assign rfl) rfl ?_
  refine g_nil ?_
  refine g_mapOpen r ?_
  intro es clk
  refine g_seq ?_
  refine g_seq ?_
  refine g_reg ?_
  refine g_v (v_move rfl) rfl ?_
  refine g_v (v_nilCheck rfl) rfl ?_
  refine g_v (v_fieldAddr 1 Tryz.underlying43 rfl rfl Tryz.sizeOf41 (by decide) rfl) rfl ?_
  refine g_v (v_load (v := .map (some r)) Tryz.isAgg41 rfl rfl) rfl ?_
  refine g_l (l_range Tryz.underlying41 rfl) rfl ?_
  rintro _ _ ⟨b18, rfl, rfl⟩
  refine g_nil ?_
  refine g_block ?_
  refine g_loop (α := MM × MM × Option (Int × Value)) (fun z => (z.2.1 ++ z.1).Perm (tb encN 24 S.N)) (fun _ => U [(0, ptr b 0), (3, ptr b13 0), (18, ptr b18 0)]) (fun z => mit b18 r es clk z.1 z.2.2 :: mpE r es clk (tb encN 24 S.N) :: pt b (.cells #[ptr p 0, .map (some r)] 43 (0, 0)) :: plb p S.B :: pt b13 (.cells #[ptr p2 0, .map (some b11)] 43 (0, 0)) :: plb p2 S.B :: mp b11 z.2.1 :: F) (fun z => z.1.length) (tb encN 24 S.N, [], none) (.refl _) [0, 3, 18] rfl rfl ?_
  rintro ⟨rest, got, cur⟩ hp
  simp only at hp
  refine g_seq ?_
  refine g_reg ?_
  refine g_l (l_next rfl) rfl ?_
  rintro _ _ (⟨hr, rfl, rfl⟩ | ⟨⟨k, v⟩, rest', hq, rfl, rfl⟩)
  · subst hr
    have hg : got.Perm (tb encN 24 S.N) := by simpa using hp
    refine g_v (v_extract rfl rfl) rfl ?_
    refine g_nil ?_
    refine g_seq ?_
    refine g_false rfl ?_
    refine g_exit rfl ?_
    refine g_seq ?_
    refine g_reg ?_
    refine g_v (v_move rfl) rfl ?_
    refine g_v (v_assign rfl) rfl ?_
    refine g_nil ?_
    refine g_shutX p2 b11 b13 S hg ?_
    refine g_mapShut r ?_
    refine g_shutX p r b S (.refl _) ?_
    refine g_sub (L2 := ixl b13 S :: ixl b S :: F) ?_
    exact fun a w hE hS => wp_ret (kq_ret (res_fpost (vs := [ptr b13 0]) rfl hE hS ⟨b13, rfl, rfl⟩))
  · obtain ⟨x, hx, hv, hk⟩ := tb_mem (hp.mem_iff.1 (List.mem_append_right _ (hq.mem_iff.2 (List.mem_cons_self ..))))
    simp only at hv hk hx
    subst hv
    have hp2 : (got ++ (k, encN x) :: rest').Perm (tb encN 24 S.N) := (hq.append_left got).symm.trans hp
    have hl := lk_none_of hp2 (tb_nodup encN 24 S.N)
    refine g_v (v_extract rfl rfl) rfl ?_
    refine g_nil ?_
    refine g_seq ?_
    refine g_true rfl ?_
    refine g_skip ?_
    refine g_block ?_
    refine g_seq ?_
    refine g_reg ?_
    refine g_v (v_entry rfl) rfl ?_
    refine g_v (v_extract (v := I k) rfl rfl) rfl ?_
    refine g_v (v_extract (v := encN x) rfl rfl) rfl ?_
    refine g_l (l_alloc #[I 0, I 0, I 0, I 0, I 0] Tryz.zeroValue99) rfl ?_
    rintro _ _ ⟨b5, rfl, rfl⟩
    refine g_v (v_assign rfl) rfl ?_
    refine g_l0 (l_storeA (cs := #[I 0, I 0, I 0, I 0, I 0]) (vs := ndC x) (ndC x).toArray Tryz.sizeOf99 rfl rfl rfl rfl (by simp) (splice_whole rfl)) ?_
    rintro _ _ rfl
    refine g_nil ?_
    refine g_draw (Lf := [pt b13 (.cells #[ptr p2 0, .map (some b11)] 43 (0, 0)), pt b5 (.cells (ndC x).toArray 99 (0, 0))]) [(0, false), (1, false), (2, false), (3, false), (4, false), (5, false), (6, true)] (by kernel_rfl) (by kernel_rfl) rfl (by kernel_rfl) ?_
    refine d_v rfl (v_move rfl) rfl ?_
    refine d_v rfl (v_nilCheck rfl) rfl ?_
    refine d_v rfl (v_fieldAddr 1 Tryz.underlying43 rfl rfl Tryz.sizeOf41 (by decide) rfl) rfl ?_
    refine d_v rfl (v_load (v := .map (some b11)) Tryz.isAgg41 rfl rfl) rfl ?_
    refine d_v rfl (v_move rfl) rfl ?_
    refine d_v rfl (v_loadA (vs := ndC (x)) Tryz.isAgg99 Tryz.sizeOf99 rfl rfl arr_ld) rfl ?_
    refine d_l0 rfl (l_mapUpdate Tryz.underlying41 Tryz.underlying3 rfl rfl rfl) ?_
    rintro _ _ rfl
    refine d_nil ?_
    refine g_blk ?_
    refine g_again (rest', mset got k (encN x), some (k, encN x)) ((mset_new hl).trans hp2) (by have := hq.length_eq; simp at this; simp; omega) [0, 3, 18] rfl rfl

theorem ct_index_Numbers (b : Nat) (S : SI) (F : List HProp) : Ct Tryz.prog 19 [ptr b 0] ([ixl b S] ++ F) (RSl 3 1 (ids 24 S.N).length (intR (ids 24 S.N)) (ixl b S :: F)) := by
  show Ct Tryz.prog 19 [ptr b 0] (ixl b S :: F) _
  refine Ct.of Tryz.func19 rfl 21 Tryz.ntmps19 (by simp) fun w0 => ?_
  refine g_openX b (S) ?_
  intro p r
  refine g_mapOpen r ?_
  intro es clk
  refine g_nilown 3 1 (intR []) rfl ?_
  refine g_seq ?_
  refine g_reg ?_
  refine g_v (v_assign rfl) rfl ?_
  refine g_nil ?_
  refine g_seq ?_
  refine g_reg ?_
  refine g_v (v_assign rfl) rfl ?_
  refine g_nil ?_
  refine g_seq ?_
  refine g_seq ?_
  refine g_reg ?_
  refine g_v (v_move rfl) rfl ?_
  refine g_v (v_nilCheck rfl) rfl ?_
  refine g_v (v_fieldAddr 1 Tryz.underlying43 rfl rfl Tryz.sizeOf41 (by decide) rfl) rfl ?_
  refine g_v (v_load (v := .map (some r)) Tryz.isAgg41 rfl rfl) rfl ?_
  refine g_l (l_range Tryz.underlying41 rfl) rfl ?_
  rintro _ _ ⟨b9, rfl, rfl⟩
  refine g_nil ?_
  refine g_block ?_
  refine g_loop (α := MM × List Int × Option (Int × Value) × Option Addr × Nat) (fun z => (z.2.1 ++ z.1.map (·.1)).Perm (ids 24 S.N)) (fun z => U [(0, ptr b 0), (9, ptr b9 0), (3, sl z.2.2.2.1 z.2.1.length z.2.2.2.2)]) (fun z => mit b9 r es clk z.1 z.2.2.1 :: mpE r es clk (tb encN 24 S.N) :: pt b (.cells #[ptr p 0, .map (some r)] 43 (0, 0)) :: plb p S.B :: owL 3 1 z.2.2.2.1 z.2.2.2.2 (intR z.2.1) :: F) (fun z => z.1.length) (tb encN 24 S.N, [], none, none, 0) (by rw [List.nil_append, tb_keys]) [0, 9, 3] rfl rfl ?_
  rintro ⟨rest, zs, cur, s, c⟩ hp
  simp only [] at hp ⊢
  have hzl : zs.length ≤ 24 := by have h1 := hp.length_eq; have h2 := ids_len_le 24 S.N; simp at h1; omega
  refine g_seq ?_
  refine g_reg ?_
  refine g_l (l_next rfl) rfl ?_
  rintro _ _ (⟨hr, rfl, rfl⟩ | ⟨⟨k, v⟩, rest', hq, rfl, rfl⟩)
  · subst hr
    simp only [List.map_nil, List.append_nil] at hp
    refine g_v (v_extract rfl rfl) rfl ?_
    refine g_nil ?_
    refine g_seq ?_
    refine g_false rfl ?_
    refine g_exit rfl ?_
    refine g_seq ?_
    refine g_reg ?_
    refine g_v (v_move rfl) rfl ?_
    refine g_l (l_call (Pre := [owL 3 1 s c (intR zs)]) Tryz.call49 rfl (ct_slices_Sort zs s zs.length c rfl (by omega))) rfl ?_
    rintro _ _ ⟨rfl, rfl⟩
    rw [sort_ids hp]
    refine g_nil ?_
    refine g_seq ?_
    refine g_reg ?_
    refine g_v (v_move rfl) rfl ?_
    refine g_v (v_assign rfl) rfl ?_
    refine g_nil ?_
    refine g_mapShut r ?_
    refine g_shutX p r b S (.refl _) ?_
    exact g_retSl rfl rfl rfl (by rw [hp.length_eq])
  · have hp2 : (zs ++ k :: rest'.map (·.1)).Perm (ids 24 S.N) := by
        have h1 := ((hq.map (·.1)).append_left zs).symm.trans hp
        simpa using h1
    refine g_v (v_extract rfl rfl) rfl ?_
    refine g_nil ?_
    refine g_seq ?_
    refine g_true rfl ?_
    refine g_skip ?_
    refine g_block ?_
    refine g_seq ?_
    refine g_reg ?_
    refine g_v (v_entry rfl) rfl ?_
    refine g_v (v_extract (v := I k) rfl rfl) rfl ?_
    refine g_v (v_assign rfl) rfl ?_
    refine g_nil ?_
    refine g_reg ?_
    refine g_v (v_move rfl) rfl ?_
    refine g_v (v_move rfl) rfl ?_
    refine g_l (l_buildSlice [[I k]] Tryz.underlying39 Tryz.sizeOf3 Tryz.zeroValue3 rfl rfl rfl (by simp) (by decide) (by decide)) rfl ?_
    rintro _ _ ⟨b16, rfl, rfl⟩
    refine g_l (l_append Tryz.underlying39 Tryz.sizeOf3 Tryz.zeroValue3 rfl Tryz.typeInfo3 (by decide) rfl rfl (intR_len _) rfl (by simp) (by intro r hr; simp at hr; subst hr; rfl) ⟨by omega, by decide, by decide⟩) rfl ?_
    rintro _ _ ⟨s17, c17, rfl, rfl⟩
    refine g_v (v_assign rfl) rfl ?_
    refine g_nil ?_
    refine g_blk ?_
    rw [show intR zs ++ [[I k]] = intR (zs ++ [k]) by simp [intR]]
    refine g_again (rest', zs ++ [k], some (k, v), s17, c17) (by simpa using hp2) (by have := hq.length_eq; simp at this; simp; omega) [0, 9, 3] rfl (by simp [U])

end Go.Proofs.YthdjckbjjfiopacGreatDoor
