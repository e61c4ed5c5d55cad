/- The reference's index of chapter 4: Share, Free, Get, Set, Diff, Nodes. No condition. -/
import Derived.Test.YthdjckbjjfiopaaGreatDoorRIx2
import Derived.Test.YthdjckbjjfiopaaGreatDoorIx3
import Derived.Test.YthdjckbjjfiopaaGreatDoorIxT
namespace Go.Proofs.YthdjckbjjfiopaaGreatDoor
open Go.Sl Go.Proofs
set_option linter.unusedVariables false
set_option linter.unusedSimpArgs false
theorem getX {S : SI} {q : Int} (hq : 0 ≤ q) : ((xS S).B q.toNat).1 = (getP S.B q).1 := by
  show ((S.B (q.toNat : Int)).getD ([], 0)).1 = _
  rw [show ((q.toNat : Nat) : Int) = q by omega]
  unfold getP
  cases S.B q <;> rfl
theorem gOkX_of {G : Gh} (V : Val G) {q : Int} (h : rt G q) : gOkX (mkG G) q := ⟨rt_rng V h, fun i hi => ⟨lf_rng V (rt_kid V h hi), fun j hj => (lf_kid V (rt_kid V h hi) hj).imp id fun ⟨d, e⟩ => ⟨_, mkB_some e⟩⟩⟩
theorem putB_pres {B : BkT} {d : Bytes} {q : Int} (h : ∃ x, B q = some x) : ∃ x, putB B d q = some x := by
  unfold putB
  split
  · exact h
  · cases hf : freeId 40 B with
    | none => exact h
    | some k =>
      have := (free_some hf).2.1
      obtain ⟨x, hx⟩ := h
      refine ⟨x, ?_⟩
      simp only
      unfold pset
      rw [if_neg (fun e => by rw [e, this] at hx; cases hx)]
      exact hx
theorem blockS_N (S : SI) (d : Bytes) : (blockS S d).N = S.N := by unfold blockS; split <;> rfl
theorem gOkX_block {S : SI} {q : Int} (h : gOkX S q) (d : Bytes) : gOkX (blockS S d) q := by
  refine ⟨h.1, fun i hi => ?_⟩
  rw [blockS_N]
  refine ⟨(h.2 i hi).1, fun j hj => ((h.2 i hi).2 j hj).imp id fun hx => ?_⟩
  unfold blockS
  split
  · exact hx
  · exact putB_pres hx
theorem blockE_sm (S : SI) (d : Bytes) : 0 ≤ (blockE S d).1 ∧ (blockE S d).1 ≤ 40 ∧ 0 ≤ (blockE S d).2 := by
  unfold blockE
  split
  · simp
  · unfold putE
    split
    · simp
    · cases h : freeId 40 S.B with
      | none => simp
      | some k => have := (free_some h).1; simp; omega
theorem blockE_pres {S : SI} {d : Bytes} (h : (blockE S d).2 = 0) : (blockE S d).1 = 0 ∨ ∃ x, (blockS S d).B (blockE S d).1 = some x := by
  unfold blockE blockS at *
  by_cases hd : d = []
  · rw [if_pos hd]; exact .inl rfl
  · rw [if_neg hd] at h ⊢
    rw [if_neg hd]
    right
    unfold putE putB at *
    by_cases h6 : 6 < d.length ∨ d = []
    · rw [if_pos h6] at h; simp at h
    · rw [if_neg h6] at h ⊢
      rw [if_neg h6]
      cases hf : freeId 40 S.B with
      | none => rw [hf] at h; simp at h
      | some k => exact ⟨(d, 1), by simp [pset]⟩
theorem xC_kid {X : XM} {k i o : Nat} {T : TypeId} {f : Nat × Nat} {n : Nd} (hk : k < 25) (hi : i < 4) (ho : o = 82 + (k * 5 + i)) (hn : kdC (X.N k) = kdC n) : objCell (.cells (xC X) T f) o = some (I (kat n i)) := by
  have := xC_kids (X := X) (k := k) (o := 82 + k * 5) (T := T) (f := f) (n := n) hk rfl hn i (I (kat n i)) (kdC_at n i hi)
  rw [show o = 82 + k * 5 + i by omega]
  exact this
theorem nodeE_nn (S : SI) (n : Nd) : 0 ≤ (nodeE S n).2 := by have := nodeE_ne S n; omega

theorem ct_R_Share (b : Nat) (S : SI) (q m : Int) (hok : okS m S) (hm : 0 ≤ m ∧ m ≤ 1000000) (hq : q ≤ 24) (F : List HProp) : Ct Tryz.prog 57 [ptr b 0, I q] ([ixr b (xS S)] ++ F) (R1 (I q) (ixr b (xS (shareS S q)) :: F)) := by
  show Ct Tryz.prog 57 [ptr b 0, I q] (ixr b (xS S) :: F) _
  refine Ct.of Tryz.func57 rfl 20 Tryz.ntmps57 (by simp) fun w0 => ?_
  refine g_seq ?_
  refine g_reg ?_
  refine g_v (v_assign rfl) rfl ?_
  refine g_nil ?_
  refine g_seq ?_
  refine g_seq ?_
  refine g_reg ?_
  refine g_v (v_move rfl) rfl ?_
  refine g_v (v_gtr rfl rfl) rfl ?_
  refine g_nil ?_
  refine g_cond rfl (fun h6 => ?_) (fun h6 => ?_)
  · simp at h6
    refine g_drawZ (Lf := [ixr b (xS S)]) [(0, false), (1, false), (2, false), (3, false), (4, false), (5, false), (6, false), (7, false), (8, false), (9, false), (10, false), (11, false)] 12 rfl (by kernel_rfl) (by kernel_rfl) rfl (by kernel_rfl) (by kernel_rfl) ?_
    refine d_v rfl (v_move rfl) rfl ?_
    refine d_v rfl (v_move rfl) rfl ?_
    refine d_v rfl (v_nilCheck rfl) rfl ?_
    refine d_v rfl (v_fieldAddr 82 Tryz.underlying68 rfl rfl Tryz.sizeOf66 (by decide) rfl) rfl ?_
    refine d_v rfl (v_idxA (q.toNat) Tryz.underlying66 Tryz.sizeOf65 rfl rfl (by omega) (by omega)) rfl ?_
    refine d_v rfl (v_fieldAddr 4 Tryz.underlying65 rfl rfl Tryz.sizeOf3 (by decide) rfl) rfl ?_
    refine d_v rfl (v_load (v := I ((xS S).N q.toNat).refs) Tryz.isAgg3 rfl (xC_nd (j := 4) (by omega) (by omega) (by omega) rfl)) rfl ?_
    refine d_v rfl (v_add rfl rfl (w64 (by rw [xS_gN (by omega)]; have := gN_refs hok hm.1 q; omega))) rfl ?_
    refine d_v rfl (v_nilCheck rfl) rfl ?_
    refine d_v rfl (v_fieldAddr 82 Tryz.underlying68 rfl rfl Tryz.sizeOf66 (by decide) rfl) rfl ?_
    refine d_v rfl (v_idxA (q.toNat) Tryz.underlying66 Tryz.sizeOf65 rfl rfl (by omega) (by omega)) rfl ?_
    refine d_v rfl (v_fieldAddr 4 Tryz.underlying65 rfl rfl Tryz.sizeOf3 (by decide) rfl) rfl ?_
    refine d_nil ?_
    refine g_l0 (l_store (xC ⟨(xS S).B, fset (xS S).N q.toNat (rf ((xS S).N q.toNat) (((xS S).N q.toNat).refs + 1))⟩) Tryz.sizeOf3 rfl rfl rfl (by rw [xC_size]; omega) (xC_setN (j := 4) (rf ((xS S).N q.toNat) (((xS S).N q.toNat).refs + 1)) (by omega) (by omega) (by omega) rfl)) ?_
    rintro _ _ rfl
    refine g_nil ?_
    refine g_seq ?_
    refine g_reg ?_
    refine g_v (v_move rfl) rfl ?_
    refine g_v (v_assign rfl) rfl ?_
    refine g_nil ?_
    rw [xS_gN (by omega), xS_someN (by omega), show (⟨S.B, pset S.N q (some (rf (gN S.N q) ((gN S.N q).refs + 1)))⟩ : SI) = shareS S q by unfold shareS; rw [if_pos h6]; rfl]
    first | exact g_ret1 rfl rfl rfl | exact g_end1 rfl rfl rfl
  · simp at h6
    refine g_skip ?_
    refine g_seq ?_
    refine g_reg ?_
    refine g_v (v_move rfl) rfl ?_
    refine g_v (v_assign rfl) rfl ?_
    refine g_nil ?_
    rw [show xS S = xS (shareS S q) by unfold shareS; rw [if_neg (by omega)]]
    first | exact g_ret1 rfl rfl rfl | exact g_end1 rfl rfl rfl

theorem ct_R_Free (b : Nat) (S : SI) (q m : Int) (hok : okS m S) (hm : 0 ≤ m ∧ m ≤ 1000000) (hq : 0 ≤ q ∧ q ≤ 24) (hk : ∀ i, i < 4 → 0 ≤ kat (gN S.N q) i ∧ kat (gN S.N q) i ≤ 24) (F : List HProp) : Ct Tryz.prog 61 [ptr b 0, I q] ([ixr b (xS S)] ++ F) (R1 (.tuple #[]) (ixr b (xS (unR S q)) :: F)) := by
  show Ct Tryz.prog 61 [ptr b 0, I q] (ixr b (xS S) :: F) _
  refine Ct.of Tryz.func61 rfl 7 Tryz.ntmps61 (by simp) fun w0 => ?_
  refine g_reg ?_
  refine g_v (v_move rfl) rfl ?_
  refine g_v (v_move rfl) rfl ?_
  refine g_l (l_call (Pre := [ixr b (xS S)]) Tryz.call83 rfl (ct_R_unrefR b S q m hok hm hq hk)) rfl ?_
  rintro _ _ ⟨rfl, rfl⟩
  refine g_nil ?_
  first | exact g_ret1 rfl rfl rfl | exact g_end1 rfl rfl rfl

theorem ct_R_Get (b : Nat) (S : SI) (root : Int) (at_ : Nat) (m : Int) (hok : okS m S) (hat : at_ < 16) (hg : gOkX S root) (F : List HProp) : Ct Tryz.prog 59 [ptr b 0, I root, I at_] ([ixr b (xS S)] ++ F) (R1 (Str (getS S root at_)) (ixr b (xS S) :: F)) := by
  show Ct Tryz.prog 59 [ptr b 0, I root, I at_] (ixr b (xS S) :: F) _
  have hr := hg.1
  have hk := (hg.2 (at_ / 4) (by omega)).1
  have hj := gOkX_rng hok hg (i := at_ / 4) (j := at_ % 4) (by omega) (by omega)
  refine Ct.of Tryz.func59 rfl 34 Tryz.ntmps59 (by simp) fun w0 => ?_
  refine g_seq ?_
  refine g_reg ?_
  refine g_v (v_assign rfl) rfl ?_
  refine g_nil ?_
  refine g_seq ?_
  refine g_reg ?_
  refine g_v (v_move rfl) rfl ?_
  refine g_v (v_move rfl) rfl ?_
  refine g_v (v_move rfl) rfl ?_
  refine g_v (v_quo rfl rfl (by decide) (quo4 at_ hat)) rfl ?_
  refine g_v (v_nilCheck rfl) rfl ?_
  refine g_v (v_fieldAddr 82 Tryz.underlying68 rfl rfl Tryz.sizeOf66 (by decide) rfl) rfl ?_
  refine g_v (v_idxA (root.toNat) Tryz.underlying66 Tryz.sizeOf65 rfl rfl (by omega) (by omega)) rfl ?_
  refine g_v (v_fieldAddr 0 Tryz.underlying65 rfl rfl Tryz.sizeOf63 (by decide) rfl) rfl ?_
  refine g_v (v_idxA (at_ / 4) Tryz.underlying63 Tryz.sizeOf3 rfl rfl rfl (by omega)) rfl ?_
  refine g_v (v_load (v := I (kat (gN S.N root) (at_ / 4))) Tryz.isAgg3 rfl (xC_kid (X := xS S) (k := root.toNat) (i := at_ / 4) (n := gN S.N root) (by omega) (by omega) (by omega) (by rw [xS_gN hr.1]))) rfl ?_
  refine g_v (v_assign rfl) rfl ?_
  refine g_nil ?_
  refine g_seq ?_
  refine g_drawL [(0, false), (1, false), (2, false), (3, false), (4, false), (5, false), (6, false), (7, false), (8, false), (9, false), (10, false), (11, false), (12, false), (13, false), (14, false), (15, false), (16, false)] (by kernel_rfl) (by kernel_rfl) rfl (by kernel_rfl) ?_
  refine d_v rfl (v_move rfl) rfl ?_
  refine d_v rfl (v_move rfl) rfl ?_
  refine d_v rfl (v_move rfl) rfl ?_
  refine d_v rfl (v_move rfl) rfl ?_
  refine d_v rfl (v_rem rfl rfl (by decide) (rem4 at_)) rfl ?_
  refine d_v rfl (v_nilCheck rfl) rfl ?_
  refine d_v rfl (v_fieldAddr 82 Tryz.underlying68 rfl rfl Tryz.sizeOf66 (by decide) rfl) rfl ?_
  refine d_v rfl (v_idxA ((kat (gN S.N root) (at_ / 4)).toNat) Tryz.underlying66 Tryz.sizeOf65 rfl rfl (by omega) (by omega)) rfl ?_
  refine d_v rfl (v_fieldAddr 0 Tryz.underlying65 rfl rfl Tryz.sizeOf63 (by decide) rfl) rfl ?_
  refine d_v rfl (v_idxA (at_ % 4) Tryz.underlying63 Tryz.sizeOf3 rfl rfl rfl (by omega)) rfl ?_
  refine d_v rfl (v_load (v := I (kat (gN S.N (kat (gN S.N root) (at_ / 4))) (at_ % 4))) Tryz.isAgg3 rfl (xC_kid (X := xS S) (k := (kat (gN S.N root) (at_ / 4)).toNat) (i := at_ % 4) (n := gN S.N (kat (gN S.N root) (at_ / 4))) (by omega) (by omega) (by omega) (by rw [xS_gN hk.1]))) rfl ?_
  refine d_v rfl (v_nilCheck rfl) rfl ?_
  refine d_v rfl (v_fieldAddr 0 Tryz.underlying68 rfl rfl Tryz.sizeOf62 (by decide) rfl) rfl ?_
  refine d_v rfl (v_idxA ((kat (gN S.N (kat (gN S.N root) (at_ / 4))) (at_ % 4)).toNat) Tryz.underlying62 Tryz.sizeOf61 rfl rfl (by omega) (by omega)) rfl ?_
  refine d_v rfl (v_fieldAddr 0 Tryz.underlying61 rfl rfl Tryz.sizeOf9 (by decide) rfl) rfl ?_
  refine d_v rfl (v_load (v := Str (getS S root at_)) Tryz.isAgg9 rfl (by have := xC_data (X := xS S) (k := (kat (gN S.N (kat (gN S.N root) (at_ / 4))) (at_ % 4)).toNat) (T := 68) (f := (0, 0)) (o := 0 + 0 + (kat (gN S.N (kat (gN S.N root) (at_ / 4))) (at_ % 4)).toNat * 2 + 0) (by omega) (by omega); rw [getX hj.1] at this; exact this)) rfl ?_
  refine d_v rfl (v_assign rfl) rfl ?_
  refine d_nil ?_
  first | exact g_ret1 rfl rfl rfl | exact g_end1 rfl rfl rfl

theorem ct_R_Set (b : Nat) (S : SI) (root : Int) (at_ : Nat) (d : Bytes) (m : Int) (hok : okS m S) (hm : 1 ≤ m ∧ m ≤ 800000) (hat : at_ < 16) (hd : d.length ≤ 9223372036854775807) (hg : gOkX S root) (F : List HProp) : Ct Tryz.prog 82 [ptr b 0, I root, I at_, Str d] ([ixr b (xS S)] ++ F) (R1 (.tuple #[I (setE S root at_ d).1, I (setE S root at_ d).2]) (ixr b (xS (setS S root at_ d)) :: F)) := by
  show Ct Tryz.prog 82 [ptr b 0, I root, I at_, Str d] (ixr b (xS S) :: F) _
  have hok1 := okS_block hok hm.1 d
  have hg1 := gOkX_block hg d
  have hb := blockE_sm S d
  have hok2 : okS (m + 4) (nodeS true (blockS S d) (setL (blockS S d) root at_ (blockE S d).1)) := okS_node hok1 hm.1 (fun h => by cases h)
  have hok3 : okS (m + 4) (unB (nodeS true (blockS S d) (setL (blockS S d) root at_ (blockE S d).1)) (blockE S d).1) := okS_unB hok2 _
  have hk3 : ∀ i, i < 4 → 0 ≤ kat (setR (blockS S d) root at_ (nodeE (blockS S d) (setL (blockS S d) root at_ (blockE S d).1)).1) i ∧ kat (setR (blockS S d) root at_ (nodeE (blockS S d) (setL (blockS S d) root at_ (blockE S d).1)).1) i ≤ 24 := fun i hi => by
    unfold setR
    rw [kset_kat _ _ _ _ (by omega) hi]
    split
    · exact nodeE_sm _ _
    · exact (hg1.2 i hi).1
  have hok4 : okS (m + 4 + 4) (nodeS false (unB (nodeS true (blockS S d) (setL (blockS S d) root at_ (blockE S d).1)) (blockE S d).1) (setR (blockS S d) root at_ (nodeE (blockS S d) (setL (blockS S d) root at_ (blockE S d).1)).1)) := okS_node hok3 (by omega) (fun _ => hk3)
  refine Ct.of Tryz.func82 rfl 82 Tryz.ntmps82 (by simp) fun w0 => ?_
  refine g_seq ?_
  refine g_reg ?_
  refine g_v (v_assign rfl) rfl ?_
  refine g_v (v_assign rfl) rfl ?_
  refine g_nil ?_
  refine g_seq ?_
  refine g_reg ?_
  refine g_v (v_assign rfl) rfl ?_
  refine g_nil ?_
  refine g_seq ?_
  refine g_seq ?_
  refine g_reg ?_
  refine g_v (v_move rfl) rfl ?_
  refine g_v (v_sneq rfl rfl) rfl ?_
  refine g_nil ?_
  refine g_cut (α := Unit) (fun _ => (blockE S d).2 = 0) (fun _ => U [(0, ptr b 0), (1, I root), (2, I at_), (10, I (blockE S d).1)]) (fun _ => ixr b (xS (blockS S d)) :: F) ?_ ?_
  · skip
    refine g_cond rfl (fun h19 => ?_) (fun h19 => ?_)
    · simp at h19
      refine g_seq ?_
      refine g_reg ?_
      refine g_v (v_move rfl) rfl ?_
      refine g_v (v_move rfl) rfl ?_
      refine g_l (l_call (Pre := [ixr b (xS S)]) Tryz.call107 rfl (ct_R_PutBlock b (xS S) d hd)) rfl ?_
      rintro _ _ ⟨rfl, rfl⟩
      rw [bt_xS hok, xS_put hok]
      refine g_v (v_move rfl) rfl ?_
      refine g_v (v_extract (v := I (putE S.B d).1) rfl rfl) rfl ?_
      refine g_v (v_extract (v := I (putE S.B d).2) rfl rfl) rfl ?_
      refine g_v (v_assign rfl) rfl ?_
      refine g_v (v_assign rfl) rfl ?_
      refine g_nil ?_
      refine g_seq ?_
      refine g_seq ?_
      refine g_reg ?_
      refine g_v (v_move rfl) rfl ?_
      refine g_v (v_gtr rfl rfl) rfl ?_
      refine g_nil ?_
      refine g_cond rfl (fun h27 => ?_) (fun h27 => ?_)
      · simp at h27
        refine g_seq ?_
        refine g_reg ?_
        refine g_v (v_move rfl) rfl ?_
        refine g_v (v_assign rfl) rfl ?_
        refine g_v (v_assign rfl) rfl ?_
        refine g_nil ?_
        have hE : blockE S d = putE S.B d := by unfold blockE; rw [if_neg h19]
        have hS1 : (⟨putB S.B d, S.N⟩ : SI) = blockS S d := by unfold blockS; rw [if_neg h19]
        rw [hS1, ← hE]
        rw [← hE] at h27
        rw [show setE S root at_ d = (0, (blockE S d).2) by unfold setE; simp only; rw [if_pos (by omega)], show setS S root at_ d = (blockS S d) by unfold setS; simp only; rw [if_pos (by omega)]]
        exact g_ret1 rfl rfl rfl
      · simp at h27
        refine g_skip ?_
        refine g_reg ?_
        refine g_v (v_move rfl) rfl ?_
        refine g_v (v_assign rfl) rfl ?_
        refine g_nil ?_
        have hE : blockE S d = putE S.B d := by unfold blockE; rw [if_neg h19]
        have hS1 : (⟨putB S.B d, S.N⟩ : SI) = blockS S d := by unfold blockS; rw [if_neg h19]
        rw [hS1, ← hE]
        exact g_here () (by rw [hE]; have := (blockE_sm S d).2.2; rw [hE] at this; omega) [0, 1, 2, 10] rfl rfl
    · simp at h19
      refine g_skip ?_
      have hE : blockE S d = (0, 0) := by unfold blockE; rw [if_pos h19]
      have hS1 : S = blockS S d := by unfold blockS; rw [if_pos h19]
      rw [show ixr b (xS S) = ixr b (xS (blockS S d)) by rw [← hS1], show (0 : Int) = (blockE S d).1 by rw [hE]]
      exact g_here () (by rw [hE]) [0, 1, 2, 10] rfl rfl
  rintro _ hbe
  have hr := hg1.1
  have hk1 := (hg1.2 (at_ / 4) (by omega)).1
  have hkt : ∀ i, i < 4 → kat (setL (blockS S d) root at_ (blockE S d).1) i = 0 ∨ ∃ x, (blockS S d).B (kat (setL (blockS S d) root at_ (blockE S d).1) i) = some x := fun i hi => by
    unfold setL
    rw [kset_kat _ _ _ _ (Nat.mod_lt _ (by decide)) hi]
    split
    · exact blockE_pres hbe
    · exact (hg1.2 (at_ / 4) (by omega)).2 i hi
  have hkp : ∀ i, i < 4 → 0 ≤ kat (setL (blockS S d) root at_ (blockE S d).1) i := fun i hi => by
    rcases hkt i hi with h | ⟨x, hx⟩
    · omega
    · have := hok1.1 _ x hx; omega
  have hlb := nodeE_sm (blockS S d) (setL (blockS S d) root at_ (blockE S d).1)
  refine g_seq ?_
  refine g_reg ?_
  refine g_v (v_move rfl) rfl ?_
  refine g_v (v_move rfl) rfl ?_
  refine g_v (v_nilCheck rfl) rfl ?_
  refine g_v (v_fieldAddr 82 Tryz.underlying68 rfl rfl Tryz.sizeOf66 (by decide) rfl) rfl ?_
  refine g_v (v_idxA (root.toNat) Tryz.underlying66 Tryz.sizeOf65 rfl rfl (by omega) (by omega)) rfl ?_
  refine g_v (v_fieldAddr 0 Tryz.underlying65 rfl rfl Tryz.sizeOf63 (by decide) rfl) rfl ?_
  refine g_v (v_loadA (vs := kdC (gN (blockS S d).N root)) Tryz.isAgg63 Tryz.sizeOf63 rfl rfl (xC_kids (X := xS (blockS S d)) (k := root.toNat) (by omega) (by omega) (by rw [xS_gN hr.1]))) rfl ?_
  refine g_l (l_alloc #[I 0, I 0, I 0, I 0] Tryz.zeroValue63) rfl ?_
  rintro _ _ ⟨b13, rfl, rfl⟩
  refine g_l0 (l_storeA (cs := #[I 0, I 0, I 0, I 0]) (vs := kdC (gN (blockS S d).N root)) (kdC (gN (blockS S d).N root)).toArray Tryz.sizeOf63 rfl rfl rfl rfl (by simp) (splice_whole rfl)) ?_
  rintro _ _ rfl
  refine g_nil ?_
  refine g_seq ?_
  refine g_draw (Lf := [ixr b (xS (blockS S d)), pt b13 (.cells (kdC (gN (blockS S d).N root)).toArray 63 (0, 0))]) [(0, false), (1, false), (2, false), (3, false), (4, false), (5, false), (6, false), (7, false), (8, false), (9, false), (10, true), (11, true)] (by kernel_rfl) (by kernel_rfl) rfl (by kernel_rfl) ?_
  refine d_v rfl (v_move rfl) rfl ?_
  refine d_v rfl (v_move rfl) rfl ?_
  refine d_v rfl (v_quo rfl rfl (by decide) (quo4 at_ hat)) rfl ?_
  refine d_v rfl (v_idxA (at_ / 4) Tryz.underlying63 Tryz.sizeOf3 rfl rfl rfl (by omega)) rfl ?_
  refine d_v rfl (v_load (v := I (kat (gN (blockS S d).N root) (at_ / 4))) Tryz.isAgg3 rfl (by simpa [objCell] using kdC_at (gN (blockS S d).N root) (at_ / 4) (by omega))) rfl ?_
  refine d_v rfl (v_nilCheck rfl) rfl ?_
  refine d_v rfl (v_fieldAddr 82 Tryz.underlying68 rfl rfl Tryz.sizeOf66 (by decide) rfl) rfl ?_
  refine d_v rfl (v_idxA ((kat (gN (blockS S d).N root) (at_ / 4)).toNat) Tryz.underlying66 Tryz.sizeOf65 rfl rfl (by omega) (by omega)) rfl ?_
  refine d_v rfl (v_fieldAddr 0 Tryz.underlying65 rfl rfl Tryz.sizeOf63 (by decide) rfl) rfl ?_
  refine d_v rfl (v_loadA (vs := kdC (gN (blockS S d).N (kat (gN (blockS S d).N root) (at_ / 4)))) Tryz.isAgg63 Tryz.sizeOf63 rfl rfl (xC_kids (X := xS (blockS S d)) (k := (kat (gN (blockS S d).N root) (at_ / 4)).toNat) (by omega) (by omega) (by rw [xS_gN hk1.1]))) rfl ?_
  refine d_l rfl (l_alloc #[I 0, I 0, I 0, I 0] Tryz.zeroValue63) rfl ?_
  rintro _ _ ⟨b14, rfl, rfl⟩
  refine d_l0 rfl (l_storeA (cs := #[I 0, I 0, I 0, I 0]) (vs := kdC (gN (blockS S d).N (kat (gN (blockS S d).N root) (at_ / 4)))) (kdC (gN (blockS S d).N (kat (gN (blockS S d).N root) (at_ / 4)))).toArray Tryz.sizeOf63 rfl rfl rfl rfl (by simp) (splice_whole rfl)) ?_
  rintro _ _ rfl
  refine d_nil ?_
  refine g_seq ?_
  refine g_reg ?_
  refine g_v (v_move rfl) rfl ?_
  refine g_v (v_rem rfl rfl (by decide) (rem4 at_)) rfl ?_
  refine g_v (v_move rfl) rfl ?_
  refine g_v (v_idxA (at_ % 4) Tryz.underlying63 Tryz.sizeOf3 rfl rfl rfl (Nat.mod_lt _ (by decide))) rfl ?_
  refine g_l0 (l_store (kdC (setL (blockS S d) root at_ (blockE S d).1)).toArray Tryz.sizeOf3 rfl rfl rfl (by simp; omega) (kdC_st (Nat.mod_lt _ (by decide)) (by omega))) ?_
  rintro _ _ rfl
  refine g_nil ?_
  refine g_seq ?_
  refine g_reg ?_
  refine g_v (v_move rfl) rfl ?_
  refine g_v (v_loadA (vs := kdC (setL (blockS S d) root at_ (blockE S d).1)) Tryz.isAgg63 Tryz.sizeOf63 rfl rfl arr_ld) rfl ?_
  refine g_l (l_call (Pre := [ixr b (xS (blockS S d))]) Tryz.call108 rfl (ct_R_node b (blockS S d) (setL (blockS S d) root at_ (blockE S d).1) true m hok1 (by omega) hkp (fun _ => hkt) (fun h => by cases h))) rfl ?_
  rintro _ _ ⟨rfl, rfl⟩
  refine g_v (v_move rfl) rfl ?_
  refine g_v (v_extract (v := I (nodeE (blockS S d) (setL (blockS S d) root at_ (blockE S d).1)).1) rfl rfl) rfl ?_
  refine g_v (v_extract (v := I (nodeE (blockS S d) (setL (blockS S d) root at_ (blockE S d).1)).2) rfl rfl) rfl ?_
  refine g_v (v_assign rfl) rfl ?_
  refine g_v (v_assign rfl) rfl ?_
  refine g_nil ?_
  refine g_seq ?_
  refine g_seq ?_
  refine g_reg ?_
  refine g_v (v_move rfl) rfl ?_
  refine g_v (v_gtr rfl rfl) rfl ?_
  refine g_nil ?_
  refine g_cond rfl (fun h58 => ?_) (fun h58 => ?_)
  · simp at h58
    refine g_seq ?_
    refine g_reg ?_
    refine g_v (v_move rfl) rfl ?_
    refine g_v (v_assign rfl) rfl ?_
    refine g_v (v_assign rfl) rfl ?_
    refine g_nil ?_
    rw [show setE S root at_ d = (0, (nodeE (blockS S d) (setL (blockS S d) root at_ (blockE S d).1)).2) by unfold setE; simp only; rw [if_neg (by omega), if_pos (by omega)], show setS S root at_ d = (nodeS true (blockS S d) (setL (blockS S d) root at_ (blockE S d).1)) by unfold setS; simp only; rw [if_neg (by omega), if_pos (by omega)]]
    exact g_ret1 rfl rfl rfl
  · simp at h58
    refine g_skip ?_
    refine g_seq ?_
    refine g_seq ?_
    refine g_reg ?_
    refine g_v (v_move rfl) rfl ?_
    refine g_v (v_gtr rfl rfl) rfl ?_
    refine g_nil ?_
    refine g_cond rfl (fun h61 => ?_) (fun h61 => ?_)
    · simp at h61
      refine g_reg ?_
      refine g_v (v_move rfl) rfl ?_
      refine g_v (v_move rfl) rfl ?_
      refine g_l (l_call (Pre := [ixr b (xS (nodeS true (blockS S d) (setL (blockS S d) root at_ (blockE S d).1)))]) Tryz.call109 rfl (ct_R_RefBlock b (xS (nodeS true (blockS S d) (setL (blockS S d) root at_ (blockE S d).1))) (blockE S d).1 (-1) (xS_w hok2 (by omega) _ _ (.inr rfl)))) rfl ?_
      rintro _ _ ⟨rfl, rfl⟩
      refine g_nil ?_
      rw [xS_ref hok2, show (⟨refB (nodeS true (blockS S d) (setL (blockS S d) root at_ (blockE S d).1)).B (blockE S d).1 (-1), (nodeS true (blockS S d) (setL (blockS S d) root at_ (blockE S d).1)).N⟩ : SI) = (unB (nodeS true (blockS S d) (setL (blockS S d) root at_ (blockE S d).1)) (blockE S d).1) by unfold unB; rw [if_pos h61]]
      refine g_seq ?_
      refine g_reg ?_
      refine g_v (v_move rfl) rfl ?_
      refine g_v (v_quo rfl rfl (by decide) (quo4 at_ hat)) rfl ?_
      refine g_v (v_move rfl) rfl ?_
      refine g_v (v_idxA (at_ / 4) Tryz.underlying63 Tryz.sizeOf3 rfl rfl rfl (by omega)) rfl ?_
      refine g_l0 (l_store (kdC (setR (blockS S d) root at_ (nodeE (blockS S d) (setL (blockS S d) root at_ (blockE S d).1)).1)).toArray Tryz.sizeOf3 rfl rfl rfl (by simp; omega) (kdC_st (by omega) (by omega))) ?_
      rintro _ _ rfl
      refine g_nil ?_
      refine g_seq ?_
      refine g_reg ?_
      refine g_v (v_move rfl) rfl ?_
      refine g_v (v_loadA (vs := kdC (setR (blockS S d) root at_ (nodeE (blockS S d) (setL (blockS S d) root at_ (blockE S d).1)).1)) Tryz.isAgg63 Tryz.sizeOf63 rfl rfl arr_ld) rfl ?_
      refine g_l (l_call (Pre := [ixr b (xS (unB (nodeS true (blockS S d) (setL (blockS S d) root at_ (blockE S d).1)) (blockE S d).1))]) Tryz.call108 rfl (ct_R_node b (unB (nodeS true (blockS S d) (setL (blockS S d) root at_ (blockE S d).1)) (blockE S d).1) (setR (blockS S d) root at_ (nodeE (blockS S d) (setL (blockS S d) root at_ (blockE S d).1)).1) false (m + 4) hok3 (by omega) (fun i hi => (hk3 i hi).1) (fun h => by cases h) (fun _ i hi => (hk3 i hi).2))) rfl ?_
      rintro _ _ ⟨rfl, rfl⟩
      refine g_v (v_move rfl) rfl ?_
      refine g_v (v_extract (v := I (nodeE (unB (nodeS true (blockS S d) (setL (blockS S d) root at_ (blockE S d).1)) (blockE S d).1) (setR (blockS S d) root at_ (nodeE (blockS S d) (setL (blockS S d) root at_ (blockE S d).1)).1)).1) rfl rfl) rfl ?_
      refine g_v (v_extract (v := I (nodeE (unB (nodeS true (blockS S d) (setL (blockS S d) root at_ (blockE S d).1)) (blockE S d).1) (setR (blockS S d) root at_ (nodeE (blockS S d) (setL (blockS S d) root at_ (blockE S d).1)).1)).2) rfl rfl) rfl ?_
      refine g_v (v_assign rfl) rfl ?_
      refine g_v (v_assign rfl) rfl ?_
      refine g_nil ?_
      refine g_seq ?_
      refine g_seq ?_
      refine g_reg ?_
      refine g_v (v_move rfl) rfl ?_
      refine g_v (v_gtr rfl rfl) rfl ?_
      refine g_nil ?_
      refine g_cond rfl (fun h76 => ?_) (fun h76 => ?_)
      · simp at h76
        refine g_seq ?_
        refine g_reg ?_
        refine g_v (v_move rfl) rfl ?_
        refine g_v (v_assign rfl) rfl ?_
        refine g_v (v_assign rfl) rfl ?_
        refine g_nil ?_
        have hl0 := nodeE_nn (blockS S d) (setL (blockS S d) root at_ (blockE S d).1)
        rw [show setE S root at_ d = (0, (nodeE (unB (nodeS true (blockS S d) (setL (blockS S d) root at_ (blockE S d).1)) (blockE S d).1) (setR (blockS S d) root at_ (nodeE (blockS S d) (setL (blockS S d) root at_ (blockE S d).1)).1)).2) by unfold setE; simp only; rw [if_neg (by omega), if_neg (by omega), if_pos (by omega)], show setS S root at_ d = (nodeS false (unB (nodeS true (blockS S d) (setL (blockS S d) root at_ (blockE S d).1)) (blockE S d).1) (setR (blockS S d) root at_ (nodeE (blockS S d) (setL (blockS S d) root at_ (blockE S d).1)).1)) by unfold setS; simp only; rw [if_neg (by omega), if_neg (by omega), if_pos (by omega)]]
        exact g_ret1 rfl rfl rfl
      · simp at h76
        refine g_skip ?_
        refine g_seq ?_
        refine g_reg ?_
        refine g_v (v_move rfl) rfl ?_
        refine g_v (v_move rfl) rfl ?_
        refine g_l (l_call (Pre := [ixr b (xS (nodeS false (unB (nodeS true (blockS S d) (setL (blockS S d) root at_ (blockE S d).1)) (blockE S d).1) (setR (blockS S d) root at_ (nodeE (blockS S d) (setL (blockS S d) root at_ (blockE S d).1)).1)))]) Tryz.call83 rfl (ct_R_unrefL b (nodeS false (unB (nodeS true (blockS S d) (setL (blockS S d) root at_ (blockE S d).1)) (blockE S d).1) (setR (blockS S d) root at_ (nodeE (blockS S d) (setL (blockS S d) root at_ (blockE S d).1)).1)) (nodeE (blockS S d) (setL (blockS S d) root at_ (blockE S d).1)).1 (m + 4 + 4) hok4 (by omega) hlb)) rfl ?_
        rintro _ _ ⟨rfl, rfl⟩
        refine g_nil ?_
        refine g_seq ?_
        refine g_reg ?_
        refine g_v (v_move rfl) rfl ?_
        refine g_v (v_assign rfl) rfl ?_
        refine g_v (v_assign rfl) rfl ?_
        refine g_nil ?_
        have hl0 := nodeE_nn (blockS S d) (setL (blockS S d) root at_ (blockE S d).1)
        have ho0 := nodeE_nn (unB (nodeS true (blockS S d) (setL (blockS S d) root at_ (blockE S d).1)) (blockE S d).1) (setR (blockS S d) root at_ (nodeE (blockS S d) (setL (blockS S d) root at_ (blockE S d).1)).1)
        rw [show setE S root at_ d = ((nodeE (unB (nodeS true (blockS S d) (setL (blockS S d) root at_ (blockE S d).1)) (blockE S d).1) (setR (blockS S d) root at_ (nodeE (blockS S d) (setL (blockS S d) root at_ (blockE S d).1)).1)).1, 0) by unfold setE; simp only; rw [if_neg (by omega), if_neg (by omega), if_neg (by omega)], show setS S root at_ d = unL (nodeS false (unB (nodeS true (blockS S d) (setL (blockS S d) root at_ (blockE S d).1)) (blockE S d).1) (setR (blockS S d) root at_ (nodeE (blockS S d) (setL (blockS S d) root at_ (blockE S d).1)).1)) (nodeE (blockS S d) (setL (blockS S d) root at_ (blockE S d).1)).1 by unfold setS; simp only; rw [if_neg (by omega), if_neg (by omega), if_neg (by omega)]]
        exact g_ret1 rfl rfl rfl
    · simp at h61
      rw [show xS (nodeS true (blockS S d) (setL (blockS S d) root at_ (blockE S d).1)) = xS (unB (nodeS true (blockS S d) (setL (blockS S d) root at_ (blockE S d).1)) (blockE S d).1) by unfold unB; rw [if_neg (by omega)]]
      refine g_skip ?_
      refine g_seq ?_
      refine g_reg ?_
      refine g_v (v_move rfl) rfl ?_
      refine g_v (v_quo rfl rfl (by decide) (quo4 at_ hat)) rfl ?_
      refine g_v (v_move rfl) rfl ?_
      refine g_v (v_idxA (at_ / 4) Tryz.underlying63 Tryz.sizeOf3 rfl rfl rfl (by omega)) rfl ?_
      refine g_l0 (l_store (kdC (setR (blockS S d) root at_ (nodeE (blockS S d) (setL (blockS S d) root at_ (blockE S d).1)).1)).toArray Tryz.sizeOf3 rfl rfl rfl (by simp; omega) (kdC_st (by omega) (by omega))) ?_
      rintro _ _ rfl
      refine g_nil ?_
      refine g_seq ?_
      refine g_reg ?_
      refine g_v (v_move rfl) rfl ?_
      refine g_v (v_loadA (vs := kdC (setR (blockS S d) root at_ (nodeE (blockS S d) (setL (blockS S d) root at_ (blockE S d).1)).1)) Tryz.isAgg63 Tryz.sizeOf63 rfl rfl arr_ld) rfl ?_
      refine g_l (l_call (Pre := [ixr b (xS (unB (nodeS true (blockS S d) (setL (blockS S d) root at_ (blockE S d).1)) (blockE S d).1))]) Tryz.call108 rfl (ct_R_node b (unB (nodeS true (blockS S d) (setL (blockS S d) root at_ (blockE S d).1)) (blockE S d).1) (setR (blockS S d) root at_ (nodeE (blockS S d) (setL (blockS S d) root at_ (blockE S d).1)).1) false (m + 4) hok3 (by omega) (fun i hi => (hk3 i hi).1) (fun h => by cases h) (fun _ i hi => (hk3 i hi).2))) rfl ?_
      rintro _ _ ⟨rfl, rfl⟩
      refine g_v (v_move rfl) rfl ?_
      refine g_v (v_extract (v := I (nodeE (unB (nodeS true (blockS S d) (setL (blockS S d) root at_ (blockE S d).1)) (blockE S d).1) (setR (blockS S d) root at_ (nodeE (blockS S d) (setL (blockS S d) root at_ (blockE S d).1)).1)).1) rfl rfl) rfl ?_
      refine g_v (v_extract (v := I (nodeE (unB (nodeS true (blockS S d) (setL (blockS S d) root at_ (blockE S d).1)) (blockE S d).1) (setR (blockS S d) root at_ (nodeE (blockS S d) (setL (blockS S d) root at_ (blockE S d).1)).1)).2) rfl rfl) rfl ?_
      refine g_v (v_assign rfl) rfl ?_
      refine g_v (v_assign rfl) rfl ?_
      refine g_nil ?_
      refine g_seq ?_
      refine g_seq ?_
      refine g_reg ?_
      refine g_v (v_move rfl) rfl ?_
      refine g_v (v_gtr rfl rfl) rfl ?_
      refine g_nil ?_
      refine g_cond rfl (fun h76 => ?_) (fun h76 => ?_)
      · simp at h76
        refine g_seq ?_
        refine g_reg ?_
        refine g_v (v_move rfl) rfl ?_
        refine g_v (v_assign rfl) rfl ?_
        refine g_v (v_assign rfl) rfl ?_
        refine g_nil ?_
        have hl0 := nodeE_nn (blockS S d) (setL (blockS S d) root at_ (blockE S d).1)
        rw [show setE S root at_ d = (0, (nodeE (unB (nodeS true (blockS S d) (setL (blockS S d) root at_ (blockE S d).1)) (blockE S d).1) (setR (blockS S d) root at_ (nodeE (blockS S d) (setL (blockS S d) root at_ (blockE S d).1)).1)).2) by unfold setE; simp only; rw [if_neg (by omega), if_neg (by omega), if_pos (by omega)], show setS S root at_ d = (nodeS false (unB (nodeS true (blockS S d) (setL (blockS S d) root at_ (blockE S d).1)) (blockE S d).1) (setR (blockS S d) root at_ (nodeE (blockS S d) (setL (blockS S d) root at_ (blockE S d).1)).1)) by unfold setS; simp only; rw [if_neg (by omega), if_neg (by omega), if_pos (by omega)]]
        exact g_ret1 rfl rfl rfl
      · simp at h76
        refine g_skip ?_
        refine g_seq ?_
        refine g_reg ?_
        refine g_v (v_move rfl) rfl ?_
        refine g_v (v_move rfl) rfl ?_
        refine g_l (l_call (Pre := [ixr b (xS (nodeS false (unB (nodeS true (blockS S d) (setL (blockS S d) root at_ (blockE S d).1)) (blockE S d).1) (setR (blockS S d) root at_ (nodeE (blockS S d) (setL (blockS S d) root at_ (blockE S d).1)).1)))]) Tryz.call83 rfl (ct_R_unrefL b (nodeS false (unB (nodeS true (blockS S d) (setL (blockS S d) root at_ (blockE S d).1)) (blockE S d).1) (setR (blockS S d) root at_ (nodeE (blockS S d) (setL (blockS S d) root at_ (blockE S d).1)).1)) (nodeE (blockS S d) (setL (blockS S d) root at_ (blockE S d).1)).1 (m + 4 + 4) hok4 (by omega) hlb)) rfl ?_
        rintro _ _ ⟨rfl, rfl⟩
        refine g_nil ?_
        refine g_seq ?_
        refine g_reg ?_
        refine g_v (v_move rfl) rfl ?_
        refine g_v (v_assign rfl) rfl ?_
        refine g_v (v_assign rfl) rfl ?_
        refine g_nil ?_
        have hl0 := nodeE_nn (blockS S d) (setL (blockS S d) root at_ (blockE S d).1)
        have ho0 := nodeE_nn (unB (nodeS true (blockS S d) (setL (blockS S d) root at_ (blockE S d).1)) (blockE S d).1) (setR (blockS S d) root at_ (nodeE (blockS S d) (setL (blockS S d) root at_ (blockE S d).1)).1)
        rw [show setE S root at_ d = ((nodeE (unB (nodeS true (blockS S d) (setL (blockS S d) root at_ (blockE S d).1)) (blockE S d).1) (setR (blockS S d) root at_ (nodeE (blockS S d) (setL (blockS S d) root at_ (blockE S d).1)).1)).1, 0) by unfold setE; simp only; rw [if_neg (by omega), if_neg (by omega), if_neg (by omega)], show setS S root at_ d = unL (nodeS false (unB (nodeS true (blockS S d) (setL (blockS S d) root at_ (blockE S d).1)) (blockE S d).1) (setR (blockS S d) root at_ (nodeE (blockS S d) (setL (blockS S d) root at_ (blockE S d).1)).1)) (nodeE (blockS S d) (setL (blockS S d) root at_ (blockE S d).1)).1 by unfold setS; simp only; rw [if_neg (by omega), if_neg (by omega), if_neg (by omega)]]
        exact g_ret1 rfl rfl rfl

-- (*counterfoil/counterfoilref.Index).Diff is not in this seat
theorem ct_R_Nodes (b : Nat) (S : SI) (m : Int) (hok : okS m S) (F : List HProp) : Ct Tryz.prog 35 [ptr b 0] ([ixr b (xS S)] ++ F) (RSl 3 1 (ids 24 S.N).length (intR (ids 24 S.N)) (ixr b (xS S) :: F)) := by
  show Ct Tryz.prog 35 [ptr b 0] (ixr b (xS S) :: F) _
  refine Ct.of Tryz.func35 rfl 22 Tryz.ntmps35 (by simp) fun w0 => ?_
  refine g_nilown 3 1 (intR []) rfl ?_
  refine g_seq ?_
  refine g_reg ?_
  refine g_v (v_assign rfl) rfl ?_
  refine g_nil ?_
  refine g_seq ?_
  refine g_reg ?_
  refine g_v (v_assign rfl) rfl ?_
  refine g_nil ?_
  refine g_seq ?_
  refine g_seq ?_
  refine g_reg ?_
  refine g_v (v_assign rfl) rfl ?_
  refine g_nil ?_
  refine g_block ?_
  refine g_loop (α := Nat × List Int × Option Addr × Nat) (fun z => (1 ≤ z.1 ∧ z.1 ≤ 25) ∧ z.2.1 = idsT (z.1 - 1) S.N) (fun z => U [(0, ptr b 0), (3, sl z.2.2.1 z.2.1.length z.2.2.2), (4, I z.1)]) (fun z => owL 3 1 z.2.2.1 z.2.2.2 (intR z.2.1) :: ixr b (xS S) :: F) (fun z => 25 - z.1) (1, [], none, 0) ⟨by omega, rfl⟩ [0, 3, 4] rfl rfl ?_
  rintro ⟨k, zs, s, c⟩ ⟨hk, hz⟩
  simp only [] at hk hz ⊢
  have hzl : zs.length ≤ 24 := by have := idsT_len (k - 1) S.N; rw [hz]; omega
  refine g_seq ?_
  refine g_seq ?_
  refine g_reg ?_
  refine g_v (v_move rfl) rfl ?_
  refine g_v (v_leq rfl rfl) rfl ?_
  refine g_nil ?_
  refine g_cond rfl (fun h6 => ?_) (fun h6 => ?_)
  · simp at h6
    refine g_skip ?_
    refine g_seq ?_
    refine g_block ?_
    refine g_seq ?_
    refine g_reg ?_
    refine g_v (v_move rfl) rfl ?_
    refine g_v (v_move rfl) rfl ?_
    refine g_v (v_nilCheck rfl) rfl ?_
    refine g_v (v_fieldAddr 82 Tryz.underlying68 rfl rfl Tryz.sizeOf66 (by decide) rfl) rfl ?_
    refine g_v (v_idxA (k) Tryz.underlying66 Tryz.sizeOf65 rfl rfl rfl (by omega)) rfl ?_
    refine g_v (v_fieldAddr 4 Tryz.underlying65 rfl rfl Tryz.sizeOf3 (by decide) rfl) rfl ?_
    refine g_v (v_load (v := I (gN S.N k).refs) Tryz.isAgg3 rfl (xC_nd (j := 4) (by omega) (by omega) (by omega) rfl)) rfl ?_
    refine g_v (v_gtr rfl rfl) rfl ?_
    refine g_nil ?_
    refine g_cond rfl (fun h16 => ?_) (fun h16 => ?_)
    · simp at h16
      refine g_reg ?_
      refine g_v (v_move rfl) rfl ?_
      refine g_v (v_move rfl) rfl ?_
      refine g_l (l_buildSlice [[I k]] Tryz.underlying82 Tryz.sizeOf3 Tryz.zeroValue3 rfl rfl rfl (by simp) (by decide) (by decide)) rfl ?_
      rintro _ _ ⟨b19, rfl, rfl⟩
      refine g_l (l_append Tryz.underlying82 Tryz.sizeOf3 Tryz.zeroValue3 rfl Tryz.typeInfo3 (by decide) rfl rfl (intR_len _) rfl (by simp) (by intro r hr; simp at hr; subst hr; rfl) ⟨by omega, by decide, by decide⟩) rfl ?_
      rintro _ _ ⟨s20, c20, rfl, rfl⟩
      refine g_v (v_assign rfl) rfl ?_
      refine g_nil ?_
      refine g_blk ?_
      refine g_reg ?_
      refine g_v (v_move rfl) rfl ?_
      refine g_v (v_add rfl rfl (w64 (by omega))) rfl ?_
      refine g_v (v_assign rfl) rfl ?_
      refine g_nil ?_
      rw [show intR zs ++ [[I k]] = intR (zs ++ [(k : Int)]) by simp [intR]]
      refine g_again (k + 1, zs ++ [(k : Int)], s20, c20) ⟨by simp only []; omega, ?_⟩ (by simp only []; omega) [0, 3, 4] rfl (by simp [U])
      simp only []
      rw [hz, show k + 1 - 1 = (k - 1) + 1 by omega, idsT_hit (k := k) (m := k - 1) (by omega) (by cases e : S.N (k : Int) with
        | none => unfold gN at h16; rw [e] at h16; simp [nd0] at h16
        | some _ => rfl)]
    · simp at h16
      refine g_skip ?_
      refine g_blk ?_
      refine g_reg ?_
      refine g_v (v_move rfl) rfl ?_
      refine g_v (v_add rfl rfl (w64 (by omega))) rfl ?_
      refine g_v (v_assign rfl) rfl ?_
      refine g_nil ?_
      refine g_again (k + 1, zs, s, c) ⟨by simp only []; omega, ?_⟩ (by simp only []; omega) [0, 3, 4] rfl rfl
      simp only []
      rw [hz, show k + 1 - 1 = (k - 1) + 1 by omega, idsT_miss (k := k) (m := k - 1) (by omega) (by cases e : S.N (k : Int) with
        | none => rfl
        | some x => have := hok.2.2.2 k x e; unfold gN at h16; rw [e] at h16; simp at h16; omega)]
  · simp at h6
    obtain rfl : k = 25 := by omega
    refine g_exit rfl ?_
    refine g_seq ?_
    refine g_reg ?_
    refine g_v (v_move rfl) rfl ?_
    refine g_v (v_assign rfl) rfl ?_
    refine g_nil ?_
    obtain rfl : zs = ids 24 S.N := hz
    first | exact g_retSl rfl rfl rfl rfl | exact g_endSl rfl rfl rfl rfl

end Go.Proofs.YthdjckbjjfiopaaGreatDoor
