/- The reference's index of chapter 4: nodes. No condition. -/
import Derived.Test.YthdjckbjjfiopaaGreatDoorRIx
import Derived.Test.YthdjckbjjfiopaaGreatDoorIx2
namespace Go.Proofs.YthdjckbjjfiopaaGreatDoor
open Go.Sl Go.Proofs
set_option linter.unusedVariables false
set_option linter.unusedSimpArgs false
/-- the reference's tables, as the model's -/
def xS (S : SI) : XM := ⟨fun k => (S.B (k : Int)).getD ([], 0), fun k => gN S.N (k : Int)⟩
theorem xS_N (S : SI) (k : Nat) : (xS S).N k = gN S.N k := rfl
theorem gN_pset (N : NdT) (q p : Int) (x : Option Nd) : gN (pset N q x) p = if p = q then x.getD nd0 else gN N p := by
  unfold gN pset; split <;> rfl
theorem XM_ext {X Y : XM} (h1 : X.B = Y.B) (h2 : X.N = Y.N) : X = Y := by cases X; cases Y; simp_all
theorem xS_setN (S : SI) (k : Nat) {y : Nd} {x : Option Nd} (h : x.getD nd0 = y) : (⟨(xS S).B, fset (xS S).N k y⟩ : XM) = xS ⟨S.B, pset S.N (k : Int) x⟩ := by
  refine XM_ext rfl (funext fun i => ?_)
  show fset (xS S).N k y i = gN (pset S.N (k : Int) x) (i : Int)
  rw [gN_pset, h]
  unfold fset
  by_cases hi : i = k
  · rw [if_pos hi, if_pos (by omega)]
  · rw [if_neg hi, if_neg (by omega)]; rfl
theorem xS_setB (S : SI) (k : Nat) {y : Bk} {x : Option Bk} (h : x.getD ([], 0) = y) : (⟨fset (xS S).B k y, (xS S).N⟩ : XM) = xS ⟨pset S.B (k : Int) x, S.N⟩ := by
  refine XM_ext (funext fun i => ?_) rfl
  show fset (xS S).B k y i = (pset S.B (k : Int) x (i : Int)).getD ([], 0)
  unfold fset pset
  by_cases hi : i = k
  · rw [if_pos hi, if_pos (by omega), h]
  · rw [if_neg hi, if_neg (by omega)]; rfl
theorem bt_xS {m : Int} {S : SI} (h : okS m S) : bt (xS S) = S.B := funext fun q => by
  cases e : S.B q with
  | none =>
    refine bt_none fun hq => hq.2 ?_
    show ((S.B (q.toNat : Int)).getD ([], 0)).2 = 0
    rw [show ((q.toNat : Nat) : Int) = q by omega, e]; rfl
  | some x =>
    have h1 := h.1 q x e
    have h2 := h.2.1 q x e
    have h3 : (xS S).B q.toNat = x := by
      show (S.B (q.toNat : Int)).getD ([], 0) = x
      rw [show ((q.toNat : Nat) : Int) = q by omega, e]; rfl
    rw [bt_some ⟨by omega, by rw [h3]; omega⟩, h3]
theorem xS_put {m : Int} {S : SI} (h : okS m S) (d : Bytes) : putX (xS S) d = xS ⟨putB S.B d, S.N⟩ := by
  unfold putX putB
  rw [bt_xS h]
  split
  · rfl
  · cases hf : freeId 40 S.B with
    | none => rfl
    | some k => exact xS_setB S k rfl
theorem xS_ref {m : Int} {S : SI} (h : okS m S) (q n : Int) : refX (xS S) q n = xS ⟨refB S.B q n, S.N⟩ := by
  unfold refX refB
  cases e : S.B q with
  | none =>
    rw [if_neg]
    intro hq
    refine hq.2 ?_
    show ((S.B (q.toNat : Int)).getD ([], 0)).2 = 0
    rw [show ((q.toNat : Nat) : Int) = q by omega, e]; rfl
  | some x =>
    have h1 := h.1 q x e
    have h2 := h.2.1 q x e
    have h4 : ((q.toNat : Nat) : Int) = q := by omega
    have h3 : (xS S).B q.toNat = x := by
      show (S.B (q.toNat : Int)).getD ([], 0) = x
      rw [h4, e]; rfl
    rw [if_pos ⟨by omega, by rw [h3]; omega⟩, h3]
    simp only
    have h5 := xS_setB S q.toNat (x := if x.2 + n = 0 then none else some (x.1, x.2 + n)) rfl
    rw [h4] at h5
    rw [← h5]
    congr 2
    split <;> rfl
theorem xS_w {m : Int} {S : SI} (h : okS m S) (hm : m ≤ 1000000) (q n : Int) (hn : n = 1 ∨ n = -1) : ∀ x, bt (xS S) q = some x → -9223372036854775808 ≤ x.2 + n ∧ x.2 + n ≤ 9223372036854775807 := fun x hx => by
  rw [bt_xS h] at hx
  have := h.2.1 q x hx
  omega
theorem xS_nn {m : Int} {S : SI} (h : okS m S) (k : Nat) : 0 ≤ ((xS S).B k).2 := by
  show 0 ≤ ((S.B (k : Int)).getD ([], 0)).2
  cases e : S.B (k : Int) with
  | none => simp
  | some x => have := h.2.1 k x e; simp; omega
theorem xS_B {S : SI} {k : Int} {x : Bk} (hk : 0 ≤ k) (h : S.B k = some x) : (xS S).B k.toNat = x := by
  show (S.B (k.toNat : Int)).getD ([], 0) = x
  rw [show ((k.toNat : Nat) : Int) = k by omega, h]; rfl
theorem xS_incB {S : SI} {k : Int} {x : Bk} (hk : 0 ≤ k) (h : S.B k = some x) (hx : 0 < x.2) : (⟨fset (xS S).B k.toNat (((xS S).B k.toNat).1, ((xS S).B k.toNat).2 + 1), (xS S).N⟩ : XM) = xS ⟨refB S.B k 1, S.N⟩ := by
  have h5 := xS_setB S k.toNat (x := some (x.1, x.2 + 1)) rfl
  rw [show ((k.toNat : Nat) : Int) = k by omega] at h5
  have h6 : refB S.B k 1 = pset S.B k (some (x.1, x.2 + 1)) := by unfold refB; rw [h]; simp only; rw [if_neg (by omega)]
  rw [xS_B hk h, h6]
  exact h5
theorem xS_gN {S : SI} {k : Int} (hk : 0 ≤ k) : (xS S).N k.toNat = gN S.N k := by rw [xS_N, show ((k.toNat : Nat) : Int) = k by omega]
theorem xS_updN {S : SI} {k : Int} (hk : 0 ≤ k) {y : Nd} {x : Option Nd} (h : x.getD nd0 = y) : (⟨(xS S).B, fset (xS S).N k.toNat y⟩ : XM) = xS ⟨S.B, pset S.N k x⟩ := by
  have h5 := xS_setN S k.toNat h
  rw [show ((k.toNat : Nat) : Int) = k by omega] at h5
  exact h5
theorem xS_someN {S : SI} {k : Int} (hk : 0 ≤ k) (y : Nd) : (⟨(xS S).B, fset (xS S).N k.toNat y⟩ : XM) = xS ⟨S.B, pset S.N k (some y)⟩ := xS_updN hk rfl
theorem bump_pres {S : SI} {q k : Int} {leaf : Bool} (hp : ∀ q x, S.B q = some x → 0 < x.2) (h : ∃ x, S.B q = some x) : ∃ x, (bump leaf S k).B q = some x := by
  unfold bump
  split
  · exact h
  · split
    · obtain ⟨x, hx⟩ := h
      show ∃ y, refB S.B k 1 q = some y
      unfold refB
      cases e : S.B k with
      | none => exact ⟨x, hx⟩
      | some y =>
        have := hp k y e
        simp only
        rw [if_neg (by omega)]
        unfold pset
        split
        · exact ⟨_, rfl⟩
        · exact ⟨x, hx⟩
    · exact h
theorem part_pres {m : Int} {S : SI} (h : okS m S) (h0 : 0 ≤ m) {leaf : Bool} {n : Nd} (hk : leaf = false → ∀ i, i < 4 → 0 ≤ kat n i ∧ kat n i ≤ 24) {q : Int} (hq : ∃ x, S.B q = some x) : ∀ i : Nat, i ≤ 4 → ∃ x, (part (bump leaf) S n i).B q = some x
  | 0, _ => hq
  | i + 1, hi => by
    rw [part_s _ _ _ i (by omega)]
    exact bump_pres (fun p x e => ((part_bump h h0 hk i (by omega)).2.1 p x e).1) (part_pres h h0 hk hq i (by omega))
/-- a root below which numbers are in bounds, and blocks present -/
def gOkX (S : SI) (q : Int) : Prop := (0 ≤ q ∧ q ≤ 24) ∧ ∀ i, i < 4 → (0 ≤ kat (gN S.N q) i ∧ kat (gN S.N q) i ≤ 24) ∧ ∀ j, j < 4 → kat (gN S.N (kat (gN S.N q) i)) j = 0 ∨ ∃ x, S.B (kat (gN S.N (kat (gN S.N q) i)) j) = some x
theorem gOkX_rng {m : Int} {S : SI} (h : okS m S) {q : Int} (hq : gOkX S q) {i j : Nat} (hi : i < 4) (hj : j < 4) : 0 ≤ kat (gN S.N (kat (gN S.N q) i)) j ∧ kat (gN S.N (kat (gN S.N q) i)) j ≤ 40 := by
  rcases (hq.2 i hi).2 j hj with h0 | ⟨x, hx⟩
  · omega
  · have := h.1 _ x hx; omega
theorem xC_kids {X : XM} {k o : Nat} {T : TypeId} {f : Nat × Nat} {n : Nd} (hk : k < 25) (ho : o = 82 + k * 5) (hn : kdC (X.N k) = kdC n) : ∀ j v, (kdC n)[j]? = some v → objCell (.cells (xC X) T f) (o + j) = some v := fun j v h => by
  have hj : j < 4 := by have := (List.getElem?_eq_some_iff.1 h).1; simpa using this
  refine xC_nd (j := j) hk (by omega) (by omega) ?_
  rw [← hn] at h
  match j, h with
  | 0, h => exact h
  | 1, h => exact h
  | 2, h => exact h
  | 3, h => exact h
  | j + 4, h => omega

theorem ct_R_node (b : Nat) (S : SI) (n : Nd) (lf : Bool) (m : Int) (hok : okS m S) (hm : 1 ≤ m ∧ m ≤ 900000) (hk : ∀ i, i < 4 → 0 ≤ kat n i) (hkt : lf = true → ∀ i, i < 4 → kat n i = 0 ∨ ∃ x, S.B (kat n i) = some x) (hkf : lf = false → ∀ i, i < 4 → kat n i ≤ 24) (F : List HProp) : Ct Tryz.prog 108 [ptr b 0, .agg (kdC n).toArray, Bo lf] ([ixr b (xS S)] ++ F) (R1 (.tuple #[I (nodeE S n).1, I (nodeE S n).2]) (ixr b (xS (nodeS lf S n)) :: F)) := by
  show Ct Tryz.prog 108 [ptr b 0, .agg (kdC n).toArray, Bo lf] (ixr b (xS S) :: F) _
  refine Ct.of Tryz.func108 rfl 91 Tryz.ntmps108 (by simp) fun w0 => ?_
  refine g_seq ?_
  refine g_reg ?_
  refine g_l (l_box (kdC n).toArray rfl rfl) rfl ?_
  rintro _ _ ⟨b4, rfl, rfl⟩
  refine g_v (v_assign rfl) rfl ?_
  refine g_v (v_assign rfl) rfl ?_
  refine g_nil ?_
  refine g_seq ?_
  refine g_seq ?_
  refine g_reg ?_
  refine g_v (v_idxA (0) Tryz.underlying63 Tryz.sizeOf3 rfl rfl rfl (by decide)) rfl ?_
  refine g_v (v_load (v := I n.k0) Tryz.isAgg3 rfl rfl) rfl ?_
  refine g_v (v_eql rfl rfl) rfl ?_
  refine g_v (v_move rfl) rfl ?_
  refine g_gv rfl rfl (fun hg => v_idxA (1) Tryz.underlying63 Tryz.sizeOf3 rfl rfl rfl (by decide)) rfl rfl ?_
  refine g_gv rfl rfl (fun hg => v_load (v := I n.k1) Tryz.isAgg3 rfl rfl) rfl rfl ?_
  refine g_gv rfl rfl (fun hg => v_eql rfl rfl) rfl rfl ?_
  refine g_v (v_and rfl rfl) rfl ?_
  refine g_v (v_move rfl) rfl ?_
  refine g_gv rfl rfl (fun hg => v_idxA (2) Tryz.underlying63 Tryz.sizeOf3 rfl rfl rfl (by decide)) rfl rfl ?_
  refine g_gv rfl rfl (fun hg => v_load (v := I n.k2) Tryz.isAgg3 rfl rfl) rfl rfl ?_
  refine g_gv rfl rfl (fun hg => v_eql rfl rfl) rfl rfl ?_
  refine g_v (v_and rfl rfl) rfl ?_
  refine g_v (v_move rfl) rfl ?_
  refine g_gv rfl rfl (fun hg => v_idxA (3) Tryz.underlying63 Tryz.sizeOf3 rfl rfl rfl (by decide)) rfl rfl ?_
  refine g_gv rfl rfl (fun hg => v_load (v := I n.k3) Tryz.isAgg3 rfl rfl) rfl rfl ?_
  refine g_gv rfl rfl (fun hg => v_eql rfl rfl) rfl rfl ?_
  refine g_v (v_and rfl rfl) rfl ?_
  refine g_nil ?_
  refine g_cond rfl (fun h27 => ?_) (fun h27 => ?_)
  · have hno : noKids n := by simpa [noKids, and_assoc] using h27
    refine g_seq ?_
    refine g_reg ?_
    refine g_v (v_assign rfl) rfl ?_
    refine g_v (v_assign rfl) rfl ?_
    refine g_nil ?_
    rw [show nodeE S n = (0, 0) by unfold nodeE; rw [if_pos hno], show nodeS lf S n = S by unfold nodeS; rw [if_pos hno]]
    exact g_ret1 rfl rfl rfl
  · have hno : ¬ noKids n := fun h => by obtain ⟨e0, e1, e2, e3⟩ := h; simp [e0, e1, e2, e3] at h27
    refine g_skip ?_
    refine g_seq ?_
    refine g_seq ?_
    refine g_reg ?_
    refine g_v (v_assign rfl) rfl ?_
    refine g_nil ?_
    refine g_block ?_
    refine g_loop (α := Nat) (fun k => (1 ≤ k ∧ k ≤ 25) ∧ ∀ j : Nat, 1 ≤ j → j < k → (S.N j).isSome = true) (fun k => U [(0, ptr b 0), (2, Bo lf), (4, ptr b4 0), (8, I k)]) (fun _ => pt b4 (.cells (kdC n).toArray 63 (0, 0)) :: ixr b (xS S) :: F) (fun k => 25 - k) 1 ⟨by omega, fun j h1 h2 => absurd h2 (by omega)⟩ [0, 2, 4, 8] rfl rfl ?_
    intro k h0
    refine g_seq ?_
    refine g_seq ?_
    refine g_reg ?_
    refine g_v (v_move rfl) rfl ?_
    refine g_v (v_leq rfl rfl) rfl ?_
    refine g_nil ?_
    refine g_cond rfl (fun h29 => ?_) (fun h29 => ?_)
    · simp at h29
      refine g_skip ?_
      refine g_seq ?_
      refine g_block ?_
      refine g_seq ?_
      refine g_seq ?_
      refine g_reg ?_
      refine g_v (v_move rfl) rfl ?_
      refine g_v (v_move rfl) rfl ?_
      refine g_v (v_nilCheck rfl) rfl ?_
      refine g_v (v_fieldAddr 82 Tryz.underlying68 rfl rfl Tryz.sizeOf66 (by decide) rfl) rfl ?_
      refine g_v (v_idxA (k) Tryz.underlying66 Tryz.sizeOf65 rfl rfl rfl (by omega)) rfl ?_
      refine g_v (v_fieldAddr 4 Tryz.underlying65 rfl rfl Tryz.sizeOf3 (by decide) rfl) rfl ?_
      refine g_v (v_load (v := I (gN S.N k).refs) Tryz.isAgg3 rfl (xC_nd (j := 4) (by omega) (by omega) (by omega) rfl)) rfl ?_
      refine g_v (v_gtr rfl rfl) rfl ?_
      refine g_nil ?_
      refine g_cond rfl (fun h39 => ?_) (fun h39 => ?_)
      · simp at h39
        refine g_exit rfl ?_
        refine g_reg ?_
        refine g_v (v_move rfl) rfl ?_
        refine g_v (v_add rfl rfl (w64 (by omega))) rfl ?_
        refine g_v (v_assign rfl) rfl ?_
        refine g_nil ?_
        refine g_again (k + 1) ⟨by omega, fun j h1 h2 => ?_⟩ (by omega) [0, 2, 4, 8] rfl rfl
        rcases Nat.lt_or_ge j k with h3 | h3
        · exact h0.2 j h1 h3
        · obtain rfl : j = k := by omega
          cases e : S.N (j : Int) with
          | none => unfold gN at h39; rw [e] at h39; simp [nd0] at h39
          | some _ => rfl
      · simp at h39
        have hnk : S.N k = none := by
          cases e : S.N (k : Int) with
          | none => rfl
          | some x => have := hok.2.2.2 k x e; unfold gN at h39; rw [e] at h39; simp at h39; omega
        have hfr : freeId 24 S.N = some k := free_mk (by omega) hnk h0.2
        refine g_skip ?_
        refine g_seq ?_
        refine g_drawZ (Lf := [ixr b (xS S), pt b4 (.cells (kdC n).toArray 63 (0, 0))]) [(0, false), (1, false), (2, false), (3, false), (4, false), (5, false), (6, false)] 7 rfl (by kernel_rfl) (by kernel_rfl) rfl (by kernel_rfl) (by kernel_rfl) ?_
        refine d_v rfl (v_move rfl) rfl ?_
        refine d_v rfl (v_move rfl) rfl ?_
        refine d_v rfl (v_loadA (vs := kdC n) Tryz.isAgg63 Tryz.sizeOf63 rfl rfl arr_ld) rfl ?_
        refine d_v rfl (v_build rfl (bldNode n)) rfl ?_
        refine d_v rfl (v_nilCheck rfl) rfl ?_
        refine d_v rfl (v_fieldAddr 82 Tryz.underlying68 rfl rfl Tryz.sizeOf66 (by decide) rfl) rfl ?_
        refine d_v rfl (v_idxA (k) Tryz.underlying66 Tryz.sizeOf65 rfl rfl rfl (by omega)) rfl ?_
        refine d_nil ?_
        refine g_l0 (l_storeA (vs := ndC (rf n 1)) (xC (xS ⟨S.B, pset S.N k (some (rf n 1))⟩)) Tryz.sizeOf65 rfl rfl rfl rfl (by rw [xC_size]; simp; omega) ((xC_putN (k := k) (rf n 1) (by omega) (by omega)).trans (congrArg xC (xS_setN S k rfl)))) ?_
        rintro _ _ rfl
        refine g_nil ?_
        show G _ _ _ (pt b4 (.cells (kdC n).toArray 63 (0, 0)) :: ixr b (xS (part (bump lf) ⟨S.B, pset S.N k (some (rf n 1))⟩ n 0)) :: F)
        refine g_seq ?_
        refine g_seq ?_
        refine g_reg ?_
        refine g_v (v_assign rfl) rfl ?_
        refine g_nil ?_
        refine g_block ?_
        refine g_loop (α := Nat) (fun i => i ≤ 4) (fun i => U [(0, ptr b 0), (2, Bo lf), (4, ptr b4 0), (8, I k), (9, I i)]) (fun i => pt b4 (.cells (kdC n).toArray 63 (0, 0)) :: ixr b (xS (part (bump lf) ⟨S.B, pset S.N k (some (rf n 1))⟩ n i)) :: F) (fun i => 4 - i) 0 (by omega) [0, 2, 4, 8, 9] rfl rfl ?_
        intro i hi
        refine g_seq ?_
        refine g_seq ?_
        refine g_reg ?_
        refine g_v (v_move rfl) rfl ?_
        refine g_v (v_lss rfl rfl) rfl ?_
        refine g_nil ?_
        refine g_cond rfl (fun h48 => ?_) (fun h48 => ?_)
        · simp at h48
          have hi4 : i < 4 := by omega
          have hpi := part_bump (okS_newN (k := k) hok hm.1 (by omega) n) (by omega) (fun h i hi => ⟨hk i hi, hkf h i hi⟩) i hi
          refine g_skip ?_
          refine g_seq ?_
          refine g_block ?_
          refine g_seq ?_
          refine g_reg ?_
          refine g_v (v_move rfl) rfl ?_
          refine g_v (v_idxA (i) Tryz.underlying63 Tryz.sizeOf3 rfl rfl rfl hi4) rfl ?_
          refine g_v (v_load (v := I (kat (n) (i))) Tryz.isAgg3 rfl (by simpa [objCell] using kdC_at (n) (i) hi4)) rfl ?_
          refine g_v (v_gtr rfl rfl) rfl ?_
          refine g_v (v_move rfl) rfl ?_
          refine g_gv rfl rfl (fun hg => v_move rfl) rfl rfl ?_
          refine g_v (v_and rfl rfl) rfl ?_
          refine g_nil ?_
          refine g_cond rfl (fun h57 => ?_) (fun h57 => ?_)
          · simp at h57
            obtain ⟨y, hy⟩ : ∃ x, (part (bump lf) ⟨S.B, pset S.N k (some (rf n 1))⟩ n i).B (kat n i) = some x := part_pres (S := ⟨S.B, pset S.N k (some (rf n 1))⟩) (okS_newN (k := k) hok hm.1 (by omega) n) (by omega) (fun h i hi => ⟨hk i hi, hkf h i hi⟩) ((hkt h57.2 i hi4).resolve_left (by omega)) i hi
            have hyr := hpi.1 _ y hy
            have hyp := hpi.2.1 _ y hy
            have hkn : 0 ≤ kat n i ∧ True := ⟨by omega, trivial⟩
            have hxB : (xS (part (bump lf) ⟨S.B, pset S.N k (some (rf n 1))⟩ n i)).B (kat n i).toNat = y := xS_B (by omega) hy
            refine g_drawZ (Lf := [ixr b (xS (part (bump lf) ⟨S.B, pset S.N k (some (rf n 1))⟩ n i)), pt b4 (.cells (kdC n).toArray 63 (0, 0))]) [(0, false), (1, false), (2, false), (3, false), (4, false), (5, false), (6, false), (7, false), (8, false), (9, false), (10, false), (11, false), (12, false), (13, false)] 14 rfl (by kernel_rfl) (by kernel_rfl) rfl (by kernel_rfl) (by kernel_rfl) ?_
            refine d_v rfl (v_move rfl) rfl ?_
            refine d_v rfl (v_move rfl) rfl ?_
            refine d_v rfl (v_idxA (i) Tryz.underlying63 Tryz.sizeOf3 rfl rfl rfl hi4) rfl ?_
            refine d_v rfl (v_load (v := I (kat (n) (i))) Tryz.isAgg3 rfl (by simpa [objCell] using kdC_at (n) (i) hi4)) rfl ?_
            refine d_v rfl (v_nilCheck rfl) rfl ?_
            refine d_v rfl (v_fieldAddr 0 Tryz.underlying68 rfl rfl Tryz.sizeOf62 (by decide) rfl) rfl ?_
            refine d_v rfl (v_idxA ((kat n i).toNat) Tryz.underlying62 Tryz.sizeOf61 rfl rfl (by omega) (by omega)) rfl ?_
            refine d_v rfl (v_fieldAddr 1 Tryz.underlying61 rfl rfl Tryz.sizeOf3 (by decide) rfl) rfl ?_
            refine d_v rfl (v_load (v := I ((xS (part (bump lf) ⟨S.B, pset S.N k (some (rf n 1))⟩ n i)).B (kat n i).toNat).2) Tryz.isAgg3 rfl (xC_refs (by omega) (by omega))) rfl ?_
            refine d_v rfl (v_add rfl rfl (w64 (by rw [hxB]; omega))) rfl ?_
            refine d_v rfl (v_nilCheck rfl) rfl ?_
            refine d_v rfl (v_fieldAddr 0 Tryz.underlying68 rfl rfl Tryz.sizeOf62 (by decide) rfl) rfl ?_
            refine d_v rfl (v_idxA ((kat n i).toNat) Tryz.underlying62 Tryz.sizeOf61 rfl rfl (by omega) (by omega)) rfl ?_
            refine d_v rfl (v_fieldAddr 1 Tryz.underlying61 rfl rfl Tryz.sizeOf3 (by decide) rfl) rfl ?_
            refine d_nil ?_
            refine g_l0 (l_store (xC ⟨fset (xS (part (bump lf) ⟨S.B, pset S.N k (some (rf n 1))⟩ n i)).B (kat n i).toNat (((xS (part (bump lf) ⟨S.B, pset S.N k (some (rf n 1))⟩ n i)).B (kat n i).toNat).1, ((xS (part (bump lf) ⟨S.B, pset S.N k (some (rf n 1))⟩ n i)).B (kat n i).toNat).2 + 1), (xS (part (bump lf) ⟨S.B, pset S.N k (some (rf n 1))⟩ n i)).N⟩) Tryz.sizeOf3 rfl rfl rfl (by rw [xC_size]; omega) (xC_setB (j := 1) (((xS (part (bump lf) ⟨S.B, pset S.N k (some (rf n 1))⟩ n i)).B (kat n i).toNat).1, ((xS (part (bump lf) ⟨S.B, pset S.N k (some (rf n 1))⟩ n i)).B (kat n i).toNat).2 + 1) (by omega) (by omega) (by omega) rfl)) ?_
            rintro _ _ rfl
            refine g_nil ?_
            refine g_blk ?_
            refine g_reg ?_
            refine g_v (v_move rfl) rfl ?_
            refine g_v (v_add rfl rfl (w64 (by omega))) rfl ?_
            refine g_v (v_assign rfl) rfl ?_
            refine g_nil ?_
            rw [xS_incB hkn.1 hy hyp.1, show (⟨refB (part (bump lf) ⟨S.B, pset S.N k (some (rf n 1))⟩ n i).B (kat n i) 1, (part (bump lf) ⟨S.B, pset S.N k (some (rf n 1))⟩ n i).N⟩ : SI) = part (bump lf) ⟨S.B, pset S.N k (some (rf n 1))⟩ n (i + 1) by rw [part_s _ _ _ i hi4]; unfold bump; rw [if_neg (by omega), if_pos h57.2]]
            exact g_again (i + 1) (by omega) (by omega) [0, 2, 4, 8, 9] rfl rfl
          · simp at h57
            refine g_seq ?_
            refine g_reg ?_
            refine g_v (v_move rfl) rfl ?_
            refine g_v (v_idxA (i) Tryz.underlying63 Tryz.sizeOf3 rfl rfl rfl hi4) rfl ?_
            refine g_v (v_load (v := I (kat (n) (i))) Tryz.isAgg3 rfl (by simpa [objCell] using kdC_at (n) (i) hi4)) rfl ?_
            refine g_v (v_gtr rfl rfl) rfl ?_
            refine g_nil ?_
            refine g_cond rfl (fun h75 => ?_) (fun h75 => ?_)
            · simp at h75
              have hkr := hkf (h57 h75) i hi4
              refine g_drawZ (Lf := [ixr b (xS (part (bump lf) ⟨S.B, pset S.N k (some (rf n 1))⟩ n i)), pt b4 (.cells (kdC n).toArray 63 (0, 0))]) [(0, false), (1, false), (2, false), (3, false), (4, false), (5, false), (6, false), (7, false), (8, false), (9, false), (10, false), (11, false), (12, false), (13, false)] 14 rfl (by kernel_rfl) (by kernel_rfl) rfl (by kernel_rfl) (by kernel_rfl) ?_
              refine d_v rfl (v_move rfl) rfl ?_
              refine d_v rfl (v_move rfl) rfl ?_
              refine d_v rfl (v_idxA (i) Tryz.underlying63 Tryz.sizeOf3 rfl rfl rfl hi4) rfl ?_
              refine d_v rfl (v_load (v := I (kat (n) (i))) Tryz.isAgg3 rfl (by simpa [objCell] using kdC_at (n) (i) hi4)) rfl ?_
              refine d_v rfl (v_nilCheck rfl) rfl ?_
              refine d_v rfl (v_fieldAddr 82 Tryz.underlying68 rfl rfl Tryz.sizeOf66 (by decide) rfl) rfl ?_
              refine d_v rfl (v_idxA ((kat n i).toNat) Tryz.underlying66 Tryz.sizeOf65 rfl rfl (by omega) (by omega)) rfl ?_
              refine d_v rfl (v_fieldAddr 4 Tryz.underlying65 rfl rfl Tryz.sizeOf3 (by decide) rfl) rfl ?_
              refine d_v rfl (v_load (v := I ((xS (part (bump lf) ⟨S.B, pset S.N k (some (rf n 1))⟩ n i)).N (kat n i).toNat).refs) Tryz.isAgg3 rfl (xC_nd (j := 4) (by omega) (by omega) (by omega) rfl)) rfl ?_
              refine d_v rfl (v_add rfl rfl (w64 (by rw [xS_gN (by omega)]; have := gN_refs hpi (by omega) (kat n i); omega))) rfl ?_
              refine d_v rfl (v_nilCheck rfl) rfl ?_
              refine d_v rfl (v_fieldAddr 82 Tryz.underlying68 rfl rfl Tryz.sizeOf66 (by decide) rfl) rfl ?_
              refine d_v rfl (v_idxA ((kat n i).toNat) Tryz.underlying66 Tryz.sizeOf65 rfl rfl (by omega) (by omega)) rfl ?_
              refine d_v rfl (v_fieldAddr 4 Tryz.underlying65 rfl rfl Tryz.sizeOf3 (by decide) rfl) rfl ?_
              refine d_nil ?_
              refine g_l0 (l_store (xC ⟨(xS (part (bump lf) ⟨S.B, pset S.N k (some (rf n 1))⟩ n i)).B, fset (xS (part (bump lf) ⟨S.B, pset S.N k (some (rf n 1))⟩ n i)).N (kat n i).toNat (rf ((xS (part (bump lf) ⟨S.B, pset S.N k (some (rf n 1))⟩ n i)).N (kat n i).toNat) (((xS (part (bump lf) ⟨S.B, pset S.N k (some (rf n 1))⟩ n i)).N (kat n i).toNat).refs + 1))⟩) Tryz.sizeOf3 rfl rfl rfl (by rw [xC_size]; omega) (xC_setN (j := 4) (rf ((xS (part (bump lf) ⟨S.B, pset S.N k (some (rf n 1))⟩ n i)).N (kat n i).toNat) (((xS (part (bump lf) ⟨S.B, pset S.N k (some (rf n 1))⟩ n i)).N (kat n i).toNat).refs + 1)) (by omega) (by omega) (by omega) rfl)) ?_
              rintro _ _ rfl
              refine g_nil ?_
              refine g_blk ?_
              refine g_reg ?_
              refine g_v (v_move rfl) rfl ?_
              refine g_v (v_add rfl rfl (w64 (by omega))) rfl ?_
              refine g_v (v_assign rfl) rfl ?_
              refine g_nil ?_
              rw [xS_gN (by omega), xS_someN (by omega) (rf (gN (part (bump lf) ⟨S.B, pset S.N k (some (rf n 1))⟩ n i).N (kat n i)) ((gN (part (bump lf) ⟨S.B, pset S.N k (some (rf n 1))⟩ n i).N (kat n i)).refs + 1)), show (⟨(part (bump lf) ⟨S.B, pset S.N k (some (rf n 1))⟩ n i).B, pset (part (bump lf) ⟨S.B, pset S.N k (some (rf n 1))⟩ n i).N (kat n i) (some (rf (gN (part (bump lf) ⟨S.B, pset S.N k (some (rf n 1))⟩ n i).N (kat n i)) ((gN (part (bump lf) ⟨S.B, pset S.N k (some (rf n 1))⟩ n i).N (kat n i)).refs + 1)))⟩ : SI) = part (bump lf) ⟨S.B, pset S.N k (some (rf n 1))⟩ n (i + 1) by rw [part_s _ _ _ i hi4]; unfold bump; rw [if_neg (by omega), if_neg (by simpa using h57 h75)]; rfl]
              exact g_again (i + 1) (by omega) (by omega) [0, 2, 4, 8, 9] rfl rfl
            · simp at h75
              refine g_skip ?_
              refine g_blk ?_
              refine g_reg ?_
              refine g_v (v_move rfl) rfl ?_
              refine g_v (v_add rfl rfl (w64 (by omega))) rfl ?_
              refine g_v (v_assign rfl) rfl ?_
              refine g_nil ?_
              rw [show part (bump lf) ⟨S.B, pset S.N k (some (rf n 1))⟩ n i = part (bump lf) ⟨S.B, pset S.N k (some (rf n 1))⟩ n (i + 1) by rw [part_s _ _ _ i hi4]; unfold bump; rw [if_pos (by have := hk i hi4; omega)]]
              exact g_again (i + 1) (by omega) (by omega) [0, 2, 4, 8, 9] rfl rfl
        · simp at h48
          obtain rfl : i = 4 := by omega
          refine g_exit rfl ?_
          refine g_seq ?_
          refine g_reg ?_
          refine g_v (v_move rfl) rfl ?_
          refine g_v (v_assign rfl) rfl ?_
          refine g_v (v_assign rfl) rfl ?_
          refine g_nil ?_
          rw [show nodeE S n = ((k : Int), 0) by unfold nodeE; rw [if_neg hno, hfr], show nodeS lf S n = part (bump lf) ⟨S.B, pset S.N k (some (rf n 1))⟩ n 4 by unfold nodeS; rw [if_neg hno, hfr]; rfl]
          exact g_ret1 rfl rfl rfl
    · simp at h29
      obtain rfl : k = 25 := by omega
      have hfr : freeId 24 S.N = none := by
        cases h : freeId 24 S.N with
        | none => rfl
        | some j =>
          have h1 := free_some h
          have h2 := h0.2 j (by omega) (by omega)
          rw [h1.2.1] at h2
          cases h2
      refine g_exit rfl ?_
      refine g_seq ?_
      refine g_reg ?_
      refine g_v (v_assign rfl) rfl ?_
      refine g_v (v_assign rfl) rfl ?_
      refine g_nil ?_
      rw [show nodeE S n = (0, 8) by unfold nodeE; rw [if_neg hno, hfr], show nodeS lf S n = S by unfold nodeS; rw [if_neg hno, hfr]]
      exact g_ret1 rfl rfl rfl

theorem ct_R_unrefL (b : Nat) (S : SI) (q m : Int) (hok : okS m S) (hm : 0 ≤ m ∧ m ≤ 1000000) (hq : 0 ≤ q ∧ q ≤ 24) (F : List HProp) : Ct Tryz.prog 83 [ptr b 0, I q, Bo true] ([ixr b (xS S)] ++ F) (R1 (.tuple #[]) (ixr b (xS (unL S q)) :: F)) := by
  show Ct Tryz.prog 83 [ptr b 0, I q, Bo true] (ixr b (xS S) :: F) _
  refine Ct.of Tryz.func83 rfl 62 Tryz.ntmps83 (by simp) fun w0 => ?_
  refine g_seq ?_
  refine g_seq ?_
  refine g_reg ?_
  refine g_v (v_move rfl) rfl ?_
  refine g_v (v_eql rfl rfl) rfl ?_
  refine g_nil ?_
  refine g_cond rfl (fun h9 => ?_) (fun h9 => ?_)
  · simp at h9
    rw [show xS S = xS (unL S q) by unfold unL unX; rw [if_pos h9]]
    exact g_ret1 rfl rfl rfl
  · simp at h9
    refine g_skip ?_
    refine g_seq ?_
    refine g_drawZ (Lf := [ixr b (xS S)]) [(0, false), (1, false), (2, false), (3, false), (4, false), (5, false), (6, false), (7, false), (8, false), (9, false), (10, false), (11, false)] 12 rfl (by kernel_rfl) (by kernel_rfl) rfl (by kernel_rfl) (by kernel_rfl) ?_
    refine d_v rfl (v_move rfl) rfl ?_
    refine d_v rfl (v_move rfl) rfl ?_
    refine d_v rfl (v_nilCheck rfl) rfl ?_
    refine d_v rfl (v_fieldAddr 82 Tryz.underlying68 rfl rfl Tryz.sizeOf66 (by decide) rfl) rfl ?_
    refine d_v rfl (v_idxA (q.toNat) Tryz.underlying66 Tryz.sizeOf65 rfl rfl (by omega) (by omega)) rfl ?_
    refine d_v rfl (v_fieldAddr 4 Tryz.underlying65 rfl rfl Tryz.sizeOf3 (by decide) rfl) rfl ?_
    refine d_v rfl (v_load (v := I ((xS S).N q.toNat).refs) Tryz.isAgg3 rfl (xC_nd (j := 4) (by omega) (by omega) (by omega) rfl)) rfl ?_
    refine d_v rfl (v_sub rfl rfl (w64 (by rw [xS_gN hq.1]; have := gN_refs hok hm.1 q; omega))) rfl ?_
    refine d_v rfl (v_nilCheck rfl) rfl ?_
    refine d_v rfl (v_fieldAddr 82 Tryz.underlying68 rfl rfl Tryz.sizeOf66 (by decide) rfl) rfl ?_
    refine d_v rfl (v_idxA (q.toNat) Tryz.underlying66 Tryz.sizeOf65 rfl rfl (by omega) (by omega)) rfl ?_
    refine d_v rfl (v_fieldAddr 4 Tryz.underlying65 rfl rfl Tryz.sizeOf3 (by decide) rfl) rfl ?_
    refine d_nil ?_
    refine g_l0 (l_store (xC ⟨(xS S).B, fset (xS S).N q.toNat (rf ((xS S).N q.toNat) (((xS S).N q.toNat).refs - 1))⟩) Tryz.sizeOf3 rfl rfl rfl (by rw [xC_size]; omega) (xC_setN (j := 4) (rf ((xS S).N q.toNat) (((xS S).N q.toNat).refs - 1)) (by omega) (by omega) (by omega) rfl)) ?_
    rintro _ _ rfl
    refine g_nil ?_
    rw [xS_gN hq.1, xS_someN hq.1 (rf (gN S.N q) ((gN S.N q).refs - 1))]
    refine g_seq ?_
    refine g_seq ?_
    refine g_reg ?_
    refine g_v (v_move rfl) rfl ?_
    refine g_v (v_move rfl) rfl ?_
    refine g_v (v_nilCheck rfl) rfl ?_
    refine g_v (v_fieldAddr 82 Tryz.underlying68 rfl rfl Tryz.sizeOf66 (by decide) rfl) rfl ?_
    refine g_v (v_idxA (q.toNat) Tryz.underlying66 Tryz.sizeOf65 rfl rfl (by omega) (by omega)) rfl ?_
    refine g_v (v_fieldAddr 4 Tryz.underlying65 rfl rfl Tryz.sizeOf3 (by decide) rfl) rfl ?_
    refine g_v (v_load (v := I ((gN S.N q).refs - 1)) Tryz.isAgg3 rfl (xC_nd (X := xS ⟨S.B, pset S.N q (some (rf (gN S.N q) ((gN S.N q).refs - 1)))⟩) (j := 4) (k := q.toNat) (by omega) (by omega) (by omega) (by rw [xS_gN hq.1]; simp [gN_pset, rf]))) rfl ?_
    refine g_v (v_gtr rfl rfl) rfl ?_
    refine g_nil ?_
    refine g_cond rfl (fun h29 => ?_) (fun h29 => ?_)
    · simp at h29
      rw [show (⟨S.B, pset S.N q (some (rf (gN S.N q) ((gN S.N q).refs - 1)))⟩ : SI) = unL S q by unfold unL unX; rw [if_neg h9, if_pos (by omega)]]
      exact g_ret1 rfl rfl rfl
    · simp at h29
      refine g_skip ?_
      refine g_seq ?_
      refine g_reg ?_
      refine g_v (v_move rfl) rfl ?_
      refine g_v (v_move rfl) rfl ?_
      refine g_v (v_nilCheck rfl) rfl ?_
      refine g_v (v_fieldAddr 82 Tryz.underlying68 rfl rfl Tryz.sizeOf66 (by decide) rfl) rfl ?_
      refine g_v (v_idxA (q.toNat) Tryz.underlying66 Tryz.sizeOf65 rfl rfl (by omega) (by omega)) rfl ?_
      refine g_v (v_fieldAddr 0 Tryz.underlying65 rfl rfl Tryz.sizeOf63 (by decide) rfl) rfl ?_
      refine g_v (v_loadA (vs := kdC (gN S.N q)) Tryz.isAgg63 Tryz.sizeOf63 rfl rfl (xC_kids (X := xS ⟨S.B, pset S.N q (some (rf (gN S.N q) ((gN S.N q).refs - 1)))⟩) (k := q.toNat) (by omega) (by omega) (by rw [xS_gN hq.1]; simp [gN_pset, rf]))) rfl ?_
      refine g_l (l_alloc #[I 0, I 0, I 0, I 0] Tryz.zeroValue63) rfl ?_
      rintro _ _ ⟨b6, rfl, rfl⟩
      refine g_l0 (l_storeA (cs := #[I 0, I 0, I 0, I 0]) (vs := kdC (gN S.N q)) (kdC (gN S.N q)).toArray Tryz.sizeOf63 rfl rfl rfl rfl (by simp) (splice_whole rfl)) ?_
      rintro _ _ rfl
      refine g_nil ?_
      refine g_seq ?_
      refine g_reg ?_
      refine g_v (v_move rfl) rfl ?_
      refine g_v (v_move rfl) rfl ?_
      refine g_v (v_build rfl (bld65_ )) rfl ?_
      refine g_v (v_nilCheck rfl) rfl ?_
      refine g_v (v_fieldAddr 82 Tryz.underlying68 rfl rfl Tryz.sizeOf66 (by decide) rfl) rfl ?_
      refine g_v (v_idxA (q.toNat) Tryz.underlying66 Tryz.sizeOf65 rfl rfl (by omega) (by omega)) rfl ?_
      refine g_l0 (l_storeA (vs := ndC nd0) (xC (xS (⟨S.B, pset S.N q none⟩ : SI))) Tryz.sizeOf65 rfl rfl rfl rfl (by rw [xC_size]; simp; omega) ((xC_putN (X := xS ⟨S.B, pset S.N q (some (rf (gN S.N q) ((gN S.N q).refs - 1)))⟩) (k := q.toNat) nd0 (by omega) (by omega)).trans (congrArg xC ((xS_updN (S := ⟨S.B, pset S.N q (some (rf (gN S.N q) ((gN S.N q).refs - 1)))⟩) (x := none) hq.1 rfl).trans (by rw [pset_pset]))))) ?_
      rintro _ _ rfl
      refine g_nil ?_
      show G _ _ _ (pt b6 (.cells (kdC (gN S.N q)).toArray 63 (0, 0)) :: ixr b (xS (part dropB (⟨S.B, pset S.N q none⟩ : SI) (gN S.N q)  0)) :: F)
      refine g_seq ?_
      refine g_reg ?_
      refine g_v (v_assign rfl) rfl ?_
      refine g_nil ?_
      refine g_block ?_
      refine g_loop (α := Nat) (fun i => i ≤ 4) (fun i => U [(0, ptr b 0), (2, Bo true), (6, ptr b6 0), (7, I i)]) (fun i => pt b6 (.cells (kdC (gN S.N q)).toArray 63 (0, 0)) :: ixr b (xS (part dropB (⟨S.B, pset S.N q none⟩ : SI) (gN S.N q)  i)) :: F) (fun i => 4 - i) 0 (by omega) [0, 2, 6, 7] rfl rfl ?_
      intro i hi
      have hpi := part_ok (f := dropB) (fun S k h => okS_dropB h k) (okS_setN hok (q := q) (x := none) (fun e => by cases e) (fun n e => by cases e)) (gN S.N q) i
      refine g_seq ?_
      refine g_seq ?_
      refine g_reg ?_
      refine g_v (v_move rfl) rfl ?_
      refine g_v (v_lss rfl rfl) rfl ?_
      refine g_nil ?_
      refine g_cond rfl (fun h44 => ?_) (fun h44 => ?_)
      · simp at h44
        have hi4 : i < 4 := by omega
        refine g_skip ?_
        refine g_seq ?_
        refine g_block ?_
        refine g_seq ?_
        refine g_seq ?_
        refine g_reg ?_
        refine g_v (v_move rfl) rfl ?_
        refine g_v (v_idxA (i) Tryz.underlying63 Tryz.sizeOf3 rfl rfl rfl hi4) rfl ?_
        refine g_v (v_load (v := I (kat (gN S.N q) (i))) Tryz.isAgg3 rfl (by simpa [objCell] using kdC_at (gN S.N q) (i) hi4)) rfl ?_
        refine g_v (v_eql rfl rfl) rfl ?_
        refine g_nil ?_
        refine g_cond rfl (fun h50 => ?_) (fun h50 => ?_)
        · simp at h50
          refine g_exit rfl ?_
          refine g_reg ?_
          refine g_v (v_move rfl) rfl ?_
          refine g_v (v_add rfl rfl (w64 (by omega))) rfl ?_
          refine g_v (v_assign rfl) rfl ?_
          refine g_nil ?_
          rw [show part dropB (⟨S.B, pset S.N q none⟩ : SI) (gN S.N q)  i = part dropB (⟨S.B, pset S.N q none⟩ : SI) (gN S.N q)  (i + 1) by rw [part_s _ _ _ i hi4]; unfold dropB; rw [if_pos h50]]
          exact g_again (i + 1) (by omega) (by omega) [0, 2, 6, 7] rfl rfl
        · simp at h50
          refine g_skip ?_
          refine g_seq ?_
          refine g_reg ?_
          refine g_v (v_move rfl) rfl ?_
          refine g_nil ?_
          refine g_cond rfl (fun h51 => ?_) (fun h51 => ?_)
          · skip
            refine g_reg ?_
            refine g_v (v_move rfl) rfl ?_
            refine g_v (v_move rfl) rfl ?_
            refine g_v (v_idxA (i) Tryz.underlying63 Tryz.sizeOf3 rfl rfl rfl hi4) rfl ?_
            refine g_v (v_load (v := I (kat (gN S.N q) (i))) Tryz.isAgg3 rfl (by simpa [objCell] using kdC_at (gN S.N q) (i) hi4)) rfl ?_
            refine g_l (l_call (Pre := [ixr b (xS (part dropB (⟨S.B, pset S.N q none⟩ : SI) (gN S.N q)  i))]) Tryz.call109 rfl (ct_R_RefBlock b (xS (part dropB (⟨S.B, pset S.N q none⟩ : SI) (gN S.N q)  i)) (kat (gN S.N q) i) (-1) (xS_w hpi hm.2 _ _ (.inr rfl)))) rfl ?_
            rintro _ _ ⟨rfl, rfl⟩
            refine g_nil ?_
            refine g_blk ?_
            refine g_reg ?_
            refine g_v (v_move rfl) rfl ?_
            refine g_v (v_add rfl rfl (w64 (by omega))) rfl ?_
            refine g_v (v_assign rfl) rfl ?_
            refine g_nil ?_
            rw [xS_ref hpi, show (⟨refB (part dropB (⟨S.B, pset S.N q none⟩ : SI) (gN S.N q)  i).B (kat (gN S.N q) i) (-1), (part dropB (⟨S.B, pset S.N q none⟩ : SI) (gN S.N q)  i).N⟩ : SI) = part dropB (⟨S.B, pset S.N q none⟩ : SI) (gN S.N q)  (i + 1) by rw [part_s _ _ _ i hi4]; unfold dropB; rw [if_neg h50]]
            exact g_again (i + 1) (by omega) (by omega) [0, 2, 6, 7] rfl rfl
          · simp at h51
      · simp at h44
        obtain rfl : i = 4 := by omega
        refine g_exit rfl ?_
        rw [show part dropB (⟨S.B, pset S.N q none⟩ : SI) (gN S.N q)  4 = unL S q by unfold unL unX; rw [if_neg h9, if_neg (by omega)]; rfl]
        exact g_end1 rfl rfl rfl

theorem ct_R_unrefR (b : Nat) (S : SI) (q m : Int) (hok : okS m S) (hm : 0 ≤ m ∧ m ≤ 1000000) (hq : 0 ≤ q ∧ q ≤ 24) (hk : ∀ i, i < 4 → 0 ≤ kat (gN S.N q) i ∧ kat (gN S.N q) i ≤ 24) (F : List HProp) : Ct Tryz.prog 83 [ptr b 0, I q, Bo false] ([ixr b (xS S)] ++ F) (R1 (.tuple #[]) (ixr b (xS (unR S q)) :: F)) := by
  show Ct Tryz.prog 83 [ptr b 0, I q, Bo false] (ixr b (xS S) :: F) _
  refine Ct.of Tryz.func83 rfl 62 Tryz.ntmps83 (by simp) fun w0 => ?_
  refine g_seq ?_
  refine g_seq ?_
  refine g_reg ?_
  refine g_v (v_move rfl) rfl ?_
  refine g_v (v_eql rfl rfl) rfl ?_
  refine g_nil ?_
  refine g_cond rfl (fun h9 => ?_) (fun h9 => ?_)
  · simp at h9
    rw [show xS S = xS (unR S q) by unfold unR unX; rw [if_pos h9]]
    exact g_ret1 rfl rfl rfl
  · simp at h9
    refine g_skip ?_
    refine g_seq ?_
    refine g_drawZ (Lf := [ixr b (xS S)]) [(0, false), (1, false), (2, false), (3, false), (4, false), (5, false), (6, false), (7, false), (8, false), (9, false), (10, false), (11, false)] 12 rfl (by kernel_rfl) (by kernel_rfl) rfl (by kernel_rfl) (by kernel_rfl) ?_
    refine d_v rfl (v_move rfl) rfl ?_
    refine d_v rfl (v_move rfl) rfl ?_
    refine d_v rfl (v_nilCheck rfl) rfl ?_
    refine d_v rfl (v_fieldAddr 82 Tryz.underlying68 rfl rfl Tryz.sizeOf66 (by decide) rfl) rfl ?_
    refine d_v rfl (v_idxA (q.toNat) Tryz.underlying66 Tryz.sizeOf65 rfl rfl (by omega) (by omega)) rfl ?_
    refine d_v rfl (v_fieldAddr 4 Tryz.underlying65 rfl rfl Tryz.sizeOf3 (by decide) rfl) rfl ?_
    refine d_v rfl (v_load (v := I ((xS S).N q.toNat).refs) Tryz.isAgg3 rfl (xC_nd (j := 4) (by omega) (by omega) (by omega) rfl)) rfl ?_
    refine d_v rfl (v_sub rfl rfl (w64 (by rw [xS_gN hq.1]; have := gN_refs hok hm.1 q; omega))) rfl ?_
    refine d_v rfl (v_nilCheck rfl) rfl ?_
    refine d_v rfl (v_fieldAddr 82 Tryz.underlying68 rfl rfl Tryz.sizeOf66 (by decide) rfl) rfl ?_
    refine d_v rfl (v_idxA (q.toNat) Tryz.underlying66 Tryz.sizeOf65 rfl rfl (by omega) (by omega)) rfl ?_
    refine d_v rfl (v_fieldAddr 4 Tryz.underlying65 rfl rfl Tryz.sizeOf3 (by decide) rfl) rfl ?_
    refine d_nil ?_
    refine g_l0 (l_store (xC ⟨(xS S).B, fset (xS S).N q.toNat (rf ((xS S).N q.toNat) (((xS S).N q.toNat).refs - 1))⟩) Tryz.sizeOf3 rfl rfl rfl (by rw [xC_size]; omega) (xC_setN (j := 4) (rf ((xS S).N q.toNat) (((xS S).N q.toNat).refs - 1)) (by omega) (by omega) (by omega) rfl)) ?_
    rintro _ _ rfl
    refine g_nil ?_
    rw [xS_gN hq.1, xS_someN hq.1 (rf (gN S.N q) ((gN S.N q).refs - 1))]
    refine g_seq ?_
    refine g_seq ?_
    refine g_reg ?_
    refine g_v (v_move rfl) rfl ?_
    refine g_v (v_move rfl) rfl ?_
    refine g_v (v_nilCheck rfl) rfl ?_
    refine g_v (v_fieldAddr 82 Tryz.underlying68 rfl rfl Tryz.sizeOf66 (by decide) rfl) rfl ?_
    refine g_v (v_idxA (q.toNat) Tryz.underlying66 Tryz.sizeOf65 rfl rfl (by omega) (by omega)) rfl ?_
    refine g_v (v_fieldAddr 4 Tryz.underlying65 rfl rfl Tryz.sizeOf3 (by decide) rfl) rfl ?_
    refine g_v (v_load (v := I ((gN S.N q).refs - 1)) Tryz.isAgg3 rfl (xC_nd (X := xS ⟨S.B, pset S.N q (some (rf (gN S.N q) ((gN S.N q).refs - 1)))⟩) (j := 4) (k := q.toNat) (by omega) (by omega) (by omega) (by rw [xS_gN hq.1]; simp [gN_pset, rf]))) rfl ?_
    refine g_v (v_gtr rfl rfl) rfl ?_
    refine g_nil ?_
    refine g_cond rfl (fun h29 => ?_) (fun h29 => ?_)
    · simp at h29
      rw [show (⟨S.B, pset S.N q (some (rf (gN S.N q) ((gN S.N q).refs - 1)))⟩ : SI) = unR S q by unfold unR unX; rw [if_neg h9, if_pos (by omega)]]
      exact g_ret1 rfl rfl rfl
    · simp at h29
      refine g_skip ?_
      refine g_seq ?_
      refine g_reg ?_
      refine g_v (v_move rfl) rfl ?_
      refine g_v (v_move rfl) rfl ?_
      refine g_v (v_nilCheck rfl) rfl ?_
      refine g_v (v_fieldAddr 82 Tryz.underlying68 rfl rfl Tryz.sizeOf66 (by decide) rfl) rfl ?_
      refine g_v (v_idxA (q.toNat) Tryz.underlying66 Tryz.sizeOf65 rfl rfl (by omega) (by omega)) rfl ?_
      refine g_v (v_fieldAddr 0 Tryz.underlying65 rfl rfl Tryz.sizeOf63 (by decide) rfl) rfl ?_
      refine g_v (v_loadA (vs := kdC (gN S.N q)) Tryz.isAgg63 Tryz.sizeOf63 rfl rfl (xC_kids (X := xS ⟨S.B, pset S.N q (some (rf (gN S.N q) ((gN S.N q).refs - 1)))⟩) (k := q.toNat) (by omega) (by omega) (by rw [xS_gN hq.1]; simp [gN_pset, rf]))) rfl ?_
      refine g_l (l_alloc #[I 0, I 0, I 0, I 0] Tryz.zeroValue63) rfl ?_
      rintro _ _ ⟨b6, rfl, rfl⟩
      refine g_l0 (l_storeA (cs := #[I 0, I 0, I 0, I 0]) (vs := kdC (gN S.N q)) (kdC (gN S.N q)).toArray Tryz.sizeOf63 rfl rfl rfl rfl (by simp) (splice_whole rfl)) ?_
      rintro _ _ rfl
      refine g_nil ?_
      refine g_seq ?_
      refine g_reg ?_
      refine g_v (v_move rfl) rfl ?_
      refine g_v (v_move rfl) rfl ?_
      refine g_v (v_build rfl (bld65_ )) rfl ?_
      refine g_v (v_nilCheck rfl) rfl ?_
      refine g_v (v_fieldAddr 82 Tryz.underlying68 rfl rfl Tryz.sizeOf66 (by decide) rfl) rfl ?_
      refine g_v (v_idxA (q.toNat) Tryz.underlying66 Tryz.sizeOf65 rfl rfl (by omega) (by omega)) rfl ?_
      refine g_l0 (l_storeA (vs := ndC nd0) (xC (xS (⟨S.B, pset S.N q none⟩ : SI))) Tryz.sizeOf65 rfl rfl rfl rfl (by rw [xC_size]; simp; omega) ((xC_putN (X := xS ⟨S.B, pset S.N q (some (rf (gN S.N q) ((gN S.N q).refs - 1)))⟩) (k := q.toNat) nd0 (by omega) (by omega)).trans (congrArg xC ((xS_updN (S := ⟨S.B, pset S.N q (some (rf (gN S.N q) ((gN S.N q).refs - 1)))⟩) (x := none) hq.1 rfl).trans (by rw [pset_pset]))))) ?_
      rintro _ _ rfl
      refine g_nil ?_
      show G _ _ _ (pt b6 (.cells (kdC (gN S.N q)).toArray 63 (0, 0)) :: ixr b (xS (part unL (⟨S.B, pset S.N q none⟩ : SI) (gN S.N q)  0)) :: F)
      refine g_seq ?_
      refine g_reg ?_
      refine g_v (v_assign rfl) rfl ?_
      refine g_nil ?_
      refine g_block ?_
      refine g_loop (α := Nat) (fun i => i ≤ 4) (fun i => U [(0, ptr b 0), (2, Bo false), (6, ptr b6 0), (7, I i)]) (fun i => pt b6 (.cells (kdC (gN S.N q)).toArray 63 (0, 0)) :: ixr b (xS (part unL (⟨S.B, pset S.N q none⟩ : SI) (gN S.N q)  i)) :: F) (fun i => 4 - i) 0 (by omega) [0, 2, 6, 7] rfl rfl ?_
      intro i hi
      have hpi := part_ok (f := unL) (fun S k h => okS_unL h k) (okS_setN hok (q := q) (x := none) (fun e => by cases e) (fun n e => by cases e)) (gN S.N q) i
      refine g_seq ?_
      refine g_seq ?_
      refine g_reg ?_
      refine g_v (v_move rfl) rfl ?_
      refine g_v (v_lss rfl rfl) rfl ?_
      refine g_nil ?_
      refine g_cond rfl (fun h44 => ?_) (fun h44 => ?_)
      · simp at h44
        have hi4 : i < 4 := by omega
        refine g_skip ?_
        refine g_seq ?_
        refine g_block ?_
        refine g_seq ?_
        refine g_seq ?_
        refine g_reg ?_
        refine g_v (v_move rfl) rfl ?_
        refine g_v (v_idxA (i) Tryz.underlying63 Tryz.sizeOf3 rfl rfl rfl hi4) rfl ?_
        refine g_v (v_load (v := I (kat (gN S.N q) (i))) Tryz.isAgg3 rfl (by simpa [objCell] using kdC_at (gN S.N q) (i) hi4)) rfl ?_
        refine g_v (v_eql rfl rfl) rfl ?_
        refine g_nil ?_
        refine g_cond rfl (fun h50 => ?_) (fun h50 => ?_)
        · simp at h50
          refine g_exit rfl ?_
          refine g_reg ?_
          refine g_v (v_move rfl) rfl ?_
          refine g_v (v_add rfl rfl (w64 (by omega))) rfl ?_
          refine g_v (v_assign rfl) rfl ?_
          refine g_nil ?_
          rw [show part unL (⟨S.B, pset S.N q none⟩ : SI) (gN S.N q)  i = part unL (⟨S.B, pset S.N q none⟩ : SI) (gN S.N q)  (i + 1) by rw [part_s _ _ _ i hi4]; unfold unL unX; rw [if_pos h50]]
          exact g_again (i + 1) (by omega) (by omega) [0, 2, 6, 7] rfl rfl
        · simp at h50
          refine g_skip ?_
          refine g_seq ?_
          refine g_reg ?_
          refine g_v (v_move rfl) rfl ?_
          refine g_nil ?_
          refine g_cond rfl (fun h51 => ?_) (fun h51 => ?_)
          · simp at h51
          · skip
            refine g_reg ?_
            refine g_v (v_move rfl) rfl ?_
            refine g_v (v_move rfl) rfl ?_
            refine g_v (v_idxA (i) Tryz.underlying63 Tryz.sizeOf3 rfl rfl rfl hi4) rfl ?_
            refine g_v (v_load (v := I (kat (gN S.N q) (i))) Tryz.isAgg3 rfl (by simpa [objCell] using kdC_at (gN S.N q) (i) hi4)) rfl ?_
            refine g_l (l_call (Pre := [ixr b (xS (part unL (⟨S.B, pset S.N q none⟩ : SI) (gN S.N q)  i))]) Tryz.call83 rfl (ct_R_unrefL b (part unL (⟨S.B, pset S.N q none⟩ : SI) (gN S.N q)  i) (kat (gN S.N q) i) m hpi hm (hk i hi4))) rfl ?_
            rintro _ _ ⟨rfl, rfl⟩
            refine g_nil ?_
            refine g_blk ?_
            refine g_reg ?_
            refine g_v (v_move rfl) rfl ?_
            refine g_v (v_add rfl rfl (w64 (by omega))) rfl ?_
            refine g_v (v_assign rfl) rfl ?_
            refine g_nil ?_
            rw [show unL (part unL (⟨S.B, pset S.N q none⟩ : SI) (gN S.N q)  i) (kat (gN S.N q) i) = part unL (⟨S.B, pset S.N q none⟩ : SI) (gN S.N q)  (i + 1) from (part_s _ _ _ i hi4).symm]
            exact g_again (i + 1) (by omega) (by omega) [0, 2, 6, 7] rfl rfl
      · simp at h44
        obtain rfl : i = 4 := by omega
        refine g_exit rfl ?_
        rw [show part unL (⟨S.B, pset S.N q none⟩ : SI) (gN S.N q)  4 = unR S q by unfold unR unX; rw [if_neg h9, if_neg (by omega)]; rfl]
        exact g_end1 rfl rfl rfl

end Go.Proofs.YthdjckbjjfiopaaGreatDoor
