/- The reference's index of chapter 4: what lies where; its blocks. No condition. -/
import Derived.Test.YthdjckbjjfiopaaGreatDoorIxM
namespace Go.Proofs.YthdjckbjjfiopaaGreatDoor
open Go.Sl Go.Proofs
set_option linter.unusedVariables false
set_option linter.unusedSimpArgs false
structure XM where
  B : Nat → Bk
  N : Nat → Nd
def fset {α : Type} (f : Nat → α) (k : Nat) (x : α) : Nat → α := fun i => if i = k then x else f i
def bkC (x : Bk) : List Value := [Str x.1, I x.2]
def cat (n : Nat) (f : Nat → List Value) : List Value := ((List.range n).map f).flatten
def xL (X : XM) : List Value := cat 41 (fun k => bkC (X.B k)) ++ cat 25 (fun k => ndC (X.N k))
def xC (X : XM) : Array Value := (xL X).toArray
theorem cat_len {n sz : Nat} {f : Nat → List Value} (h : ∀ k, (f k).length = sz) : (cat n f).length = n * sz := by
  unfold cat
  rw [flatten_len (sz := sz) _ (by intro r hr; obtain ⟨k, _, rfl⟩ := List.mem_map.1 hr; exact h k)]
  simp
theorem cat_at {n sz k j : Nat} {f : Nat → List Value} (h : ∀ k, (f k).length = sz) (hk : k < n) (hj : j < sz) : (cat n f)[k * sz + j]? = (f k)[j]? := by
  unfold cat
  rw [flatten_at (sz := sz) (by omega) _ (by intro r hr; obtain ⟨k, _, rfl⟩ := List.mem_map.1 hr; exact h k)]
  have e1 : (k * sz + j) / sz = k := by rw [Nat.mul_comm, Nat.mul_add_div (by omega), Nat.div_eq_of_lt hj]; omega
  have e2 : (k * sz + j) % sz = j := by rw [Nat.mul_comm, Nat.mul_add_mod]; exact Nat.mod_eq_of_lt hj
  rw [e1, e2]
  simp [hk]
theorem cat_set {n sz k j : Nat} {f : Nat → List Value} {v : Value} (h : ∀ k, (f k).length = sz) (hk : k < n) (hj : j < sz) : (cat n f).set (k * sz + j) v = cat n (fset f k ((f k).set j v)) := by
  have h' : ∀ i, (fset f k ((f k).set j v) i).length = sz := fun i => by unfold fset; split; simpa using h k; exact h i
  have hl : (cat n f).length = n * sz := cat_len h
  have hl' := cat_len (n := n) h'
  apply List.ext_getElem?
  intro t
  by_cases ht : t < n * sz
  · have h0 : 0 < sz := by omega
    have e : t = t / sz * sz + t % sz := by rw [Nat.mul_comm]; exact (Nat.div_add_mod t sz).symm
    have h1 : t / sz < n := Nat.div_lt_of_lt_mul (by rw [Nat.mul_comm]; exact ht)
    have h2 : t % sz < sz := Nat.mod_lt _ h0
    rw [List.getElem?_set]
    generalize t / sz = q at e h1
    generalize t % sz = m at e h2
    subst e
    rw [cat_at h' h1 h2]
    by_cases hq : q = k
    · subst hq
      rw [show fset f q ((f q).set j v) q = (f q).set j v by simp [fset], List.getElem?_set]
      by_cases hm : j = m
      · subst hm; simp [hl, ht, h q, hj]
      · rw [if_neg hm, if_neg (by omega), cat_at h h1 h2]
    · rw [show fset f k ((f k).set j v) q = f q by simp [fset, hq], if_neg, cat_at h h1 h2]
      intro e
      rcases Nat.lt_or_gt_of_ne hq with hlt | hlt
      · have := Nat.mul_le_mul_right sz (show q + 1 ≤ k from hlt)
        rw [Nat.succ_mul] at this
        omega
      · have := Nat.mul_le_mul_right sz (show k + 1 ≤ q from hlt)
        rw [Nat.succ_mul] at this
        omega
  · rw [List.getElem?_eq_none (by simp [hl]; omega), List.getElem?_eq_none (by omega)]
theorem xB_len (X : XM) : (cat 41 (fun k => bkC (X.B k))).length = 82 := cat_len (sz := 2) fun _ => rfl
theorem xN_len (X : XM) : (cat 25 (fun k => ndC (X.N k))).length = 125 := cat_len (sz := 5) fun _ => rfl
theorem xC_size (X : XM) : (xC X).size = 207 := by simp [xC, xL, xB_len, xN_len]
theorem xL_B {X : XM} {k j o : Nat} {v : Value} (hk : k < 41) (hj : j < 2) (ho : o = k * 2 + j) (hv : (bkC (X.B k))[j]? = some v) : (xL X)[o]? = some v := by
  subst ho
  unfold xL
  rw [List.getElem?_append_left (by rw [xB_len]; omega), cat_at (sz := 2) (fun _ => rfl) hk hj, hv]
theorem xL_N {X : XM} {k j o : Nat} {v : Value} (hk : k < 25) (hj : j < 5) (ho : o = 82 + (k * 5 + j)) (hv : (ndC (X.N k))[j]? = some v) : (xL X)[o]? = some v := by
  subst ho
  unfold xL
  rw [List.getElem?_append_right (by rw [xB_len]; omega), xB_len, Nat.add_sub_cancel_left, cat_at (sz := 5) (fun _ => rfl) hk hj, hv]
theorem xC_data {X : XM} {k o : Nat} {T : TypeId} {f : Nat × Nat} (hk : k < 41) (ho : o = k * 2) : objCell (.cells (xC X) T f) o = some (Str (X.B k).1) := by
  show (xC X)[o]? = _
  simp only [xC, List.getElem?_toArray]
  exact xL_B (j := 0) hk (by omega) (by omega) rfl
theorem xC_refs {X : XM} {k o : Nat} {T : TypeId} {f : Nat × Nat} (hk : k < 41) (ho : o = k * 2 + 1) : objCell (.cells (xC X) T f) o = some (I (X.B k).2) := by
  show (xC X)[o]? = _
  simp only [xC, List.getElem?_toArray]
  exact xL_B (j := 1) hk (by omega) (by omega) rfl
theorem xC_nd {X : XM} {k j o : Nat} {T : TypeId} {f : Nat × Nat} {v : Value} (hk : k < 25) (hj : j < 5) (ho : o = 82 + (k * 5 + j)) (hv : (ndC (X.N k))[j]? = some v) : objCell (.cells (xC X) T f) o = some v := by
  show (xC X)[o]? = _
  simp only [xC, List.getElem?_toArray]
  exact xL_N hk hj ho hv
theorem fset_B {B : Nat → Bk} {k : Nat} {y : Bk} {l : List Value} (h : l = bkC y) : (fset (fun i => bkC (B i)) k l) = fun i => bkC (fset B k y i) := funext fun i => by
  unfold fset; split
  · exact h
  · rfl
theorem xC_setB {X : XM} {k j o : Nat} {v : Value} (y : Bk) (hk : k < 41) (hj : j < 2) (ho : o = k * 2 + j) (hv : (bkC (X.B k)).set j v = bkC y) : (xC X).setIfInBounds o v = xC ⟨fset X.B k y, X.N⟩ := by
  subst ho
  unfold xC xL
  rw [List.setIfInBounds_toArray, List.set_append_left _ _ (by rw [xB_len]; omega), cat_set (sz := 2) (fun _ => rfl) hk hj, fset_B hv]
theorem fset_N {N : Nat → Nd} {k : Nat} {y : Nd} {l : List Value} (h : l = ndC y) : (fset (fun i => ndC (N i)) k l) = fun i => ndC (fset N k y i) := funext fun i => by
  unfold fset; split
  · exact h
  · rfl
theorem xC_setN {X : XM} {k j o : Nat} {v : Value} (y : Nd) (hk : k < 25) (hj : j < 5) (ho : o = 82 + (k * 5 + j)) (hv : (ndC (X.N k)).set j v = ndC y) : (xC X).setIfInBounds o v = xC ⟨X.B, fset X.N k y⟩ := by
  subst ho
  unfold xC xL
  rw [List.setIfInBounds_toArray, List.set_append_right _ _ (by rw [xB_len]; omega), xB_len, Nat.add_sub_cancel_left, cat_set (sz := 5) (fun _ => rfl) hk hj, fset_N hv]
theorem fset_fset {α : Type} (f : Nat → α) (k : Nat) (x y : α) : fset (fset f k x) k y = fset f k y := funext fun i => by unfold fset; split <;> rfl
theorem fset_same {α : Type} (f : Nat → α) (k : Nat) (x : α) : fset f k x k = x := by simp [fset]
theorem xC_putB {X : XM} {k o : Nat} (y : Bk) (hk : k < 41) (ho : o = k * 2) : splice (xC X) o [Str y.1, I y.2] = xC ⟨fset X.B k y, X.N⟩ := by
  simp only [splice]
  rw [xC_setB (j := 0) (y.1, (X.B k).2) hk (by omega) (by omega) rfl, xC_setB (j := 1) y hk (by omega) (by omega) (by simp [fset_same, bkC])]
  simp only [fset_fset]
theorem xC_putN {X : XM} {k o : Nat} (y : Nd) (hk : k < 25) (ho : o = 82 + k * 5) : splice (xC X) o (ndC y) = xC ⟨X.B, fset X.N k y⟩ := by
  simp only [splice, ndC]
  rw [xC_setN (j := 0) ⟨y.k0, (X.N k).k1, (X.N k).k2, (X.N k).k3, (X.N k).refs⟩ hk (by omega) (by omega) rfl,
    xC_setN (j := 1) ⟨y.k0, y.k1, (X.N k).k2, (X.N k).k3, (X.N k).refs⟩ hk (by omega) (by omega) (by simp [fset_same, ndC]),
    xC_setN (j := 2) ⟨y.k0, y.k1, y.k2, (X.N k).k3, (X.N k).refs⟩ hk (by omega) (by omega) (by simp [fset_same, ndC]),
    xC_setN (j := 3) ⟨y.k0, y.k1, y.k2, y.k3, (X.N k).refs⟩ hk (by omega) (by omega) (by simp [fset_same, ndC]),
    xC_setN (j := 4) y hk (by omega) (by omega) (by simp [fset_same, ndC])]
  simp only [fset_fset]
abbrev ixr (b : Nat) (X : XM) : HProp := pt b (.cells (xC X) 68 (0, 0))
def xZ : XM := ⟨fun _ => ([], 0), fun _ => ⟨0, 0, 0, 0, 0⟩⟩
/-- the blocks that there are -/
def bt (X : XM) : BkT := fun q => if (1 ≤ q ∧ q ≤ 40) ∧ (X.B q.toNat).2 ≠ 0 then some (X.B q.toNat) else none
theorem bt_some {X : XM} {q : Int} (h : (1 ≤ q ∧ q ≤ 40) ∧ (X.B q.toNat).2 ≠ 0) : bt X q = some (X.B q.toNat) := if_pos h
theorem bt_none {X : XM} {q : Int} (h : ¬ ((1 ≤ q ∧ q ≤ 40) ∧ (X.B q.toNat).2 ≠ 0)) : bt X q = none := if_neg h
def putX (X : XM) (d : Bytes) : XM := if 6 < d.length ∨ d = [] then X else match freeId 40 (bt X) with | none => X | some k => ⟨fset X.B k (d, 1), X.N⟩
def refX (X : XM) (q n : Int) : XM := if (1 ≤ q ∧ q ≤ 40) ∧ (X.B q.toNat).2 ≠ 0 then ⟨fset X.B q.toNat (if (X.B q.toNat).2 + n = 0 then ([], 0) else ((X.B q.toNat).1, (X.B q.toNat).2 + n)), X.N⟩ else X
/-- the numbers up to k that there are -/
def idsT {ρ : Type} (k : Nat) (B : Int → Option ρ) : List Int := ((List.range' 1 k).filter fun k : Nat => (B (k : Int)).isSome).map fun k : Nat => (k : Int)
theorem idsT_len {ρ : Type} (k : Nat) (B : Int → Option ρ) : (idsT k B).length ≤ k := ids_len_le k B
theorem idsT_hit {ρ : Type} {k m : Nat} {B : Int → Option ρ} (h : k = m + 1) (hk : (B (k : Int)).isSome = true) : idsT m B ++ [(k : Int)] = idsT (m + 1) B := by
  subst h
  unfold idsT
  rw [List.range'_concat, List.filter_append, List.map_append]
  rw [show 1 + 1 * m = m + 1 by omega, List.filter_cons_of_pos (by simpa using hk)]
  rfl
theorem idsT_miss {ρ : Type} {k m : Nat} {B : Int → Option ρ} (h : k = m + 1) (hk : B (k : Int) = none) : idsT m B = idsT (m + 1) B := by
  subst h
  unfold idsT
  rw [List.range'_concat, List.filter_append, List.map_append]
  have hk' : B ((m : Int) + 1) = none := by simpa using hk
  rw [show 1 + 1 * m = m + 1 by omega, List.filter_cons_of_neg (by simp [hk'])]
  simp
theorem ct_R_PutBlock (b : Nat) (X : XM) (d : Bytes) (hd : d.length ≤ 9223372036854775807) (F : List HProp) : Ct Tryz.prog 107 [ptr b 0, Str d] ([ixr b X] ++ F) (R1 (.tuple #[I (putE (bt X) d).1, I (putE (bt X) d).2]) (ixr b (putX X d) :: F)) := by
  show Ct Tryz.prog 107 [ptr b 0, Str d] (ixr b X :: F) _
  refine Ct.of Tryz.func107 rfl 34 Tryz.ntmps107 (by simp) fun w0 => ?_
  refine g_seq ?_
  refine g_reg ?_
  refine g_v (v_assign rfl) rfl ?_
  refine g_v (v_assign rfl) rfl ?_
  refine g_nil ?_
  refine g_seq ?_
  refine g_seq ?_
  refine g_reg ?_
  refine g_v (v_move rfl) rfl ?_
  refine g_v (v_seql rfl rfl) rfl ?_
  refine g_v (v_move rfl) rfl ?_
  refine g_gv rfl rfl (fun hg => v_move rfl) rfl rfl ?_
  refine g_gv rfl rfl (fun hg => v_slen Tryz.underlying9 rfl) rfl rfl ?_
  refine g_gv rfl rfl (fun hg => v_gtr rfl rfl) rfl rfl ?_
  refine g_v (v_or rfl rfl) rfl ?_
  refine g_nil ?_
  refine g_cond rfl (fun h13 => ?_) (fun h13 => ?_)
  · simp at h13
    have h13' : 6 < d.length ∨ d = [] := h13.symm.imp (fun h => by omega) id
    refine g_seq ?_
    refine g_reg ?_
    refine g_v (v_assign rfl) rfl ?_
    refine g_v (v_assign rfl) rfl ?_
    refine g_nil ?_
    have e1 : putE (bt X) d = (0, 3) := by unfold putE; rw [if_pos h13']
    have e2 : putX X d = X := by unfold putX; rw [if_pos h13']
    rw [e1, e2]
    exact g_ret1 rfl rfl rfl
  · simp at h13
    have h13' : ¬ (6 < d.length ∨ d = []) := fun h => h.elim (fun h => by omega) h13.1
    refine g_skip ?_
    refine g_seq ?_
    refine g_seq ?_
    refine g_reg ?_
    refine g_v (v_assign rfl) rfl ?_
    refine g_nil ?_
    refine g_block ?_
    refine g_loop (α := Nat) (fun k => (1 ≤ k ∧ k ≤ 41) ∧ ∀ j : Nat, 1 ≤ j → j < k → (bt X j).isSome = true) (fun k => U [(0, ptr b 0), (1, Str d), (6, I k)]) (fun _ => ixr b X :: F) (fun k => 41 - k) 1 ⟨by omega, fun j h1 h2 => absurd h2 (by omega)⟩ [0, 1, 6] rfl rfl ?_
    intro k h0
    refine g_seq ?_
    refine g_seq ?_
    refine g_reg ?_
    refine g_v (v_move rfl) rfl ?_
    refine g_v (v_leq rfl rfl) rfl ?_
    refine g_nil ?_
    refine g_cond rfl (fun h15 => ?_) (fun h15 => ?_)
    · simp at h15
      refine g_skip ?_
      refine g_seq ?_
      refine g_block ?_
      refine g_seq ?_
      refine g_reg ?_
      refine g_v (v_move rfl) rfl ?_
      refine g_v (v_move rfl) rfl ?_
      refine g_v (v_nilCheck rfl) rfl ?_
      refine g_v (v_fieldAddr 0 Tryz.underlying68 rfl rfl Tryz.sizeOf62 (by decide) rfl) rfl ?_
      refine g_v (v_idxA k Tryz.underlying62 Tryz.sizeOf61 rfl rfl rfl (by omega)) rfl ?_
      refine g_v (v_fieldAddr 1 Tryz.underlying61 rfl rfl Tryz.sizeOf3 (by decide) rfl) rfl ?_
      refine g_v (v_load (v := I (X.B k).2) Tryz.isAgg3 rfl (xC_refs (by omega) (by omega))) rfl ?_
      refine g_v (v_eql rfl rfl) rfl ?_
      refine g_nil ?_
      refine g_cond rfl (fun h25 => ?_) (fun h25 => ?_)
      · simp at h25
        have hm : freeId 40 (bt X) = some k := free_mk (by omega) (bt_none (by simp [h25])) h0.2
        refine g_seq ?_
        refine g_reg ?_
        refine g_v (v_move rfl) rfl ?_
        refine g_v (v_move rfl) rfl ?_
        refine g_v (v_move rfl) rfl ?_
        refine g_v (v_build rfl (bld61_0_1 _ rfl _ rfl)) rfl ?_
        refine g_v (v_nilCheck rfl) rfl ?_
        refine g_v (v_fieldAddr 0 Tryz.underlying68 rfl rfl Tryz.sizeOf62 (by decide) rfl) rfl ?_
        refine g_v (v_idxA k Tryz.underlying62 Tryz.sizeOf61 rfl rfl rfl (by omega)) rfl ?_
        refine g_l0 (l_storeA (vs := [Str d, I 1]) (xC ⟨fset X.B k (d, 1), X.N⟩) Tryz.sizeOf61 rfl rfl rfl rfl (by rw [xC_size]; omega) (xC_putB (d, 1) (by omega) (by omega))) ?_
        rintro _ _ rfl
        refine g_nil ?_
        refine g_seq ?_
        refine g_reg ?_
        refine g_v (v_move rfl) rfl ?_
        refine g_v (v_assign rfl) rfl ?_
        refine g_v (v_assign rfl) rfl ?_
        refine g_nil ?_
        have e1 : putE (bt X) d = ((k : Int), 0) := by unfold putE; rw [if_neg h13', hm]
        have e2 : putX X d = ⟨fset X.B k (d, 1), X.N⟩ := by unfold putX; rw [if_neg h13', hm]
        rw [e1, e2]
        exact g_ret1 rfl rfl rfl
      · simp at h25
        refine g_skip ?_
        refine g_blk ?_
        refine g_reg ?_
        refine g_v (v_move rfl) rfl ?_
        refine g_v (v_add rfl rfl (w64 (by omega))) rfl ?_
        refine g_v (v_assign rfl) rfl ?_
        refine g_nil ?_
        refine g_again (k + 1) ⟨by omega, fun j h1 h2 => ?_⟩ (by omega) [0, 1, 6] rfl rfl
        rcases Nat.lt_or_ge j k with h3 | h3
        · exact h0.2 j h1 h3
        · obtain rfl : j = k := by omega
          rw [bt_some (by refine ⟨by omega, ?_⟩; simpa using h25)]
          rfl
    · simp at h15
      refine g_exit rfl ?_
      refine g_seq ?_
      refine g_reg ?_
      refine g_v (v_assign rfl) rfl ?_
      refine g_v (v_assign rfl) rfl ?_
      refine g_nil ?_
      have hm : freeId 40 (bt X) = none := by
        cases h : freeId 40 (bt X) with
        | none => rfl
        | some m =>
          have h1 := free_some h
          have h2 := h0.2 m (by omega) (by omega)
          rw [h1.2.1] at h2
          cases h2
      have e1 : putE (bt X) d = (0, 8) := by unfold putE; rw [if_neg h13', hm]
      have e2 : putX X d = X := by unfold putX; rw [if_neg h13', hm]
      rw [e1, e2]
      exact g_ret1 rfl rfl rfl

-- (*counterfoil/counterfoilref.Index).GetBlock is not in this seat
theorem ct_R_RefBlock (b : Nat) (X : XM) (id n : Int) (hw : ∀ x, bt X id = some x → -9223372036854775808 ≤ x.2 + n ∧ x.2 + n ≤ 9223372036854775807) (F : List HProp) : Ct Tryz.prog 109 [ptr b 0, I id, I n] ([ixr b X] ++ F) (R1 (I (refE (bt X) id)) (ixr b (refX X id n) :: F)) := by
  show Ct Tryz.prog 109 [ptr b 0, I id, I n] (ixr b X :: F) _
  refine Ct.of Tryz.func109 rfl 52 Tryz.ntmps109 (by simp) fun w0 => ?_
  refine g_seq ?_
  refine g_reg ?_
  refine g_v (v_assign rfl) rfl ?_
  refine g_nil ?_
  refine g_seq ?_
  refine g_seq ?_
  refine g_reg ?_
  refine g_v (v_move rfl) rfl ?_
  refine g_v (v_lss rfl rfl) rfl ?_
  refine g_v (v_move rfl) rfl ?_
  refine g_gv rfl rfl (fun hg => v_move rfl) rfl rfl ?_
  refine g_gv rfl rfl (fun hg => v_gtr rfl rfl) rfl rfl ?_
  refine g_v (v_or rfl rfl) rfl ?_
  refine g_v (v_move rfl) rfl ?_
  by_cases hid : 1 ≤ id ∧ id ≤ 40
  · have hb : (decide (id < 1) || decide (id > 40)) = false := by simp; omega
    refine g_gv1 rfl rfl hb (v_move rfl) rfl ?_
    refine g_gv1 rfl rfl hb (v_move rfl) rfl ?_
    refine g_gv1 rfl rfl hb (v_nilCheck rfl) rfl ?_
    refine g_gv1 rfl rfl hb (v_fieldAddr 0 Tryz.underlying68 rfl rfl Tryz.sizeOf62 (by decide) rfl) rfl ?_
    refine g_gv1 rfl rfl hb (v_idxA (id.toNat) Tryz.underlying62 Tryz.sizeOf61 rfl rfl (by omega) (by omega)) rfl ?_
    refine g_gv1 rfl rfl hb (v_fieldAddr 1 Tryz.underlying61 rfl rfl Tryz.sizeOf3 (by decide) rfl) rfl ?_
    refine g_gv1 rfl rfl hb (v_load (v := I (X.B id.toNat).2) Tryz.isAgg3 rfl (xC_refs (by omega) (by omega))) rfl ?_
    refine g_gv1 rfl rfl hb (v_eql rfl rfl) rfl ?_
    refine g_v (v_or rfl rfl) rfl ?_
    refine g_nil ?_
    refine g_cond rfl (fun h22 => ?_) (fun h22 => ?_)
    · simp [hb] at h22
      have hn : bt X id = none := bt_none (fun h => h.2 h22)
      refine g_seq ?_
      refine g_reg ?_
      refine g_v (v_assign rfl) rfl ?_
      refine g_nil ?_
      have e1 : refE (bt X) id = 5 := by unfold refE; rw [hn]; rfl
      have e2 : refX X id n = X := by unfold refX; rw [if_neg (fun h => h.2 h22)]
      rw [e1, e2]
      exact g_ret1 rfl rfl rfl
    · simp [hb] at h22
      have hn : bt X id = some (X.B id.toNat) := bt_some ⟨hid, h22⟩
      refine g_skip ?_
      refine g_seq ?_
      refine g_drawZ (Lf := [ixr b X]) [(0, false), (1, false), (2, false), (3, false), (4, false), (5, false), (6, false), (7, false), (8, false), (9, false), (10, false), (11, false), (12, false), (13, false), (14, false)] 15 rfl (by kernel_rfl) (by kernel_rfl) rfl (by kernel_rfl) (by kernel_rfl) ?_
      refine d_v rfl (v_move rfl) rfl ?_
      refine d_v rfl (v_move rfl) rfl ?_
      refine d_v rfl (v_move rfl) rfl ?_
      refine d_v rfl (v_move rfl) rfl ?_
      refine d_v rfl (v_nilCheck rfl) rfl ?_
      refine d_v rfl (v_fieldAddr 0 Tryz.underlying68 rfl rfl Tryz.sizeOf62 (by decide) rfl) rfl ?_
      refine d_v rfl (v_idxA (id.toNat) Tryz.underlying62 Tryz.sizeOf61 rfl rfl (by omega) (by omega)) rfl ?_
      refine d_v rfl (v_fieldAddr 1 Tryz.underlying61 rfl rfl Tryz.sizeOf3 (by decide) rfl) rfl ?_
      refine d_v rfl (v_load (v := I (X.B id.toNat).2) Tryz.isAgg3 rfl (xC_refs (by omega) (by omega))) rfl ?_
      refine d_v rfl (v_move rfl) rfl ?_
      refine d_v rfl (v_add rfl rfl (w64 (hw _ hn))) rfl ?_
      refine d_v rfl (v_nilCheck rfl) rfl ?_
      refine d_v rfl (v_fieldAddr 0 Tryz.underlying68 rfl rfl Tryz.sizeOf62 (by decide) rfl) rfl ?_
      refine d_v rfl (v_idxA (id.toNat) Tryz.underlying62 Tryz.sizeOf61 rfl rfl (by omega) (by omega)) rfl ?_
      refine d_v rfl (v_fieldAddr 1 Tryz.underlying61 rfl rfl Tryz.sizeOf3 (by decide) rfl) rfl ?_
      refine d_nil ?_
      refine g_l0 (l_store (xC (⟨fset X.B id.toNat ((X.B id.toNat).1, (X.B id.toNat).2 + n), X.N⟩ : XM)) Tryz.sizeOf3 rfl rfl rfl (by rw [xC_size]; omega) (xC_setB (j := 1) ((X.B id.toNat).1, (X.B id.toNat).2 + n) (by omega) (by omega) (by omega) rfl)) ?_
      rintro _ _ rfl
      refine g_nil ?_
      refine g_seq ?_
      refine g_seq ?_
      refine g_reg ?_
      refine g_v (v_move rfl) rfl ?_
      refine g_v (v_move rfl) rfl ?_
      refine g_v (v_nilCheck rfl) rfl ?_
      refine g_v (v_fieldAddr 0 Tryz.underlying68 rfl rfl Tryz.sizeOf62 (by decide) rfl) rfl ?_
      refine g_v (v_idxA (id.toNat) Tryz.underlying62 Tryz.sizeOf61 rfl rfl (by omega) (by omega)) rfl ?_
      refine g_v (v_fieldAddr 1 Tryz.underlying61 rfl rfl Tryz.sizeOf3 (by decide) rfl) rfl ?_
      refine g_v (v_load (v := I ((X.B id.toNat).2 + n)) Tryz.isAgg3 rfl (by have := xC_refs (X := (⟨fset X.B id.toNat ((X.B id.toNat).1, (X.B id.toNat).2 + n), X.N⟩ : XM)) (k := id.toNat) (T := 68) (f := (0, 0)) (o := 0 + 0 + id.toNat * 2 + 1) (by omega) (by omega); simpa [fset_same] using this)) rfl ?_
      refine g_v (v_eql rfl rfl) rfl ?_
      refine g_nil ?_
      refine g_cond rfl (fun h45 => ?_) (fun h45 => ?_)
      · simp at h45
        refine g_reg ?_
        refine g_v (v_move rfl) rfl ?_
        refine g_v (v_move rfl) rfl ?_
        refine g_v (v_build rfl (bld61_ )) rfl ?_
        refine g_v (v_nilCheck rfl) rfl ?_
        refine g_v (v_fieldAddr 0 Tryz.underlying68 rfl rfl Tryz.sizeOf62 (by decide) rfl) rfl ?_
        refine g_v (v_idxA (id.toNat) Tryz.underlying62 Tryz.sizeOf61 rfl rfl (by omega) (by omega)) rfl ?_
        refine g_l0 (l_storeA (vs := [Str [], I 0]) (xC ⟨fset X.B id.toNat ([], 0), X.N⟩) Tryz.sizeOf61 rfl rfl rfl rfl (by rw [xC_size]; omega) ((xC_putB (k := id.toNat) ([], 0) (by omega) (by omega)).trans (by simp only [fset_fset]))) ?_
        rintro _ _ rfl
        refine g_nil ?_
        refine g_seq ?_
        refine g_reg ?_
        refine g_v (v_assign rfl) rfl ?_
        refine g_nil ?_
        have e1 : refE (bt X) id = 0 := by unfold refE; rw [hn]; rfl
        have e2 : refX X id n = ⟨fset X.B id.toNat ([], 0), X.N⟩ := by unfold refX; rw [if_pos ⟨hid, h22⟩, if_pos h45]
        rw [e1, e2]
        exact g_ret1 rfl rfl rfl
      · simp at h45
        refine g_skip ?_
        refine g_seq ?_
        refine g_reg ?_
        refine g_v (v_assign rfl) rfl ?_
        refine g_nil ?_
        have e1 : refE (bt X) id = 0 := by unfold refE; rw [hn]; rfl
        have e2 : refX X id n = (⟨fset X.B id.toNat ((X.B id.toNat).1, (X.B id.toNat).2 + n), X.N⟩ : XM) := by unfold refX; rw [if_pos ⟨hid, h22⟩, if_neg h45]
        rw [e1, e2]
        exact g_ret1 rfl rfl rfl
  · have hb : (decide (id < 1) || decide (id > 40)) = true := by simp; omega
    refine g_no rfl rfl (by rw [hb]; rfl) rfl ?_
    refine g_no rfl rfl (by rw [hb]; rfl) rfl ?_
    refine g_no rfl rfl (by rw [hb]; rfl) rfl ?_
    refine g_no rfl rfl (by rw [hb]; rfl) rfl ?_
    refine g_no rfl rfl (by rw [hb]; rfl) rfl ?_
    refine g_no rfl rfl (by rw [hb]; rfl) rfl ?_
    refine g_no rfl rfl (by rw [hb]; rfl) rfl ?_
    refine g_no rfl rfl (by rw [hb]; rfl) rfl ?_
    refine g_v (v_pk1 rfl hb rfl) rfl ?_
    refine g_nil ?_
    refine g_true rfl ?_
    refine g_seq ?_
    refine g_reg ?_
    refine g_v (v_assign rfl) rfl ?_
    refine g_nil ?_
    have hn : bt X id = none := bt_none (fun h => hid h.1)
    have e1 : refE (bt X) id = 5 := by unfold refE; rw [hn]; rfl
    have e2 : refX X id n = X := by unfold refX; rw [if_neg (fun h => hid h.1)]
    rw [e1, e2]
    exact g_ret1 rfl rfl rfl

theorem ct_R_Blocks (b : Nat) (X : XM) (hx : ∀ k, k ≤ 40 → 0 ≤ (X.B k).2) (F : List HProp) : Ct Tryz.prog 33 [ptr b 0] ([ixr b X] ++ F) (RSl 3 1 (ids 40 (bt X)).length (intR (ids 40 (bt X))) (ixr b X :: F)) := by
  show Ct Tryz.prog 33 [ptr b 0] (ixr b X :: F) _
  refine Ct.of Tryz.func33 rfl 22 Tryz.ntmps33 (by simp) fun w0 => ?_
  refine g_nilown 3 1 (intR []) rfl ?_
  refine g_seq ?_
  refine g_reg ?_
  refine g_v (v_assign rfl) rfl ?_
  refine g_nil ?_
  refine g_seq ?_
  refine g_reg ?_
  refine g_v (v_assign rfl) rfl ?_
  refine g_nil ?_
  refine g_seq ?_
  refine g_seq ?_
  refine g_reg ?_
  refine g_v (v_assign rfl) rfl ?_
  refine g_nil ?_
  refine g_block ?_
  refine g_loop (α := Nat × List Int × Option Addr × Nat) (fun z => (1 ≤ z.1 ∧ z.1 ≤ 41) ∧ z.2.1 = idsT (z.1 - 1) (bt X)) (fun z => U [(0, ptr b 0), (3, sl z.2.2.1 z.2.1.length z.2.2.2), (4, I z.1)]) (fun z => owL 3 1 z.2.2.1 z.2.2.2 (intR z.2.1) :: ixr b X :: F) (fun z => 41 - z.1) (1, [], none, 0) ⟨by omega, rfl⟩ [0, 3, 4] rfl rfl ?_
  rintro ⟨k, zs, s, c⟩ ⟨hk, hz⟩
  simp only [] at hk hz ⊢
  have hzl : zs.length ≤ 40 := by have := idsT_len (k - 1) (bt X); rw [hz]; omega
  refine g_seq ?_
  refine g_seq ?_
  refine g_reg ?_
  refine g_v (v_move rfl) rfl ?_
  refine g_v (v_leq rfl rfl) rfl ?_
  refine g_nil ?_
  refine g_cond rfl (fun h6 => ?_) (fun h6 => ?_)
  · simp at h6
    refine g_skip ?_
    refine g_seq ?_
    refine g_block ?_
    refine g_seq ?_
    refine g_reg ?_
    refine g_v (v_move rfl) rfl ?_
    refine g_v (v_move rfl) rfl ?_
    refine g_v (v_nilCheck rfl) rfl ?_
    refine g_v (v_fieldAddr 0 Tryz.underlying68 rfl rfl Tryz.sizeOf62 (by decide) rfl) rfl ?_
    refine g_v (v_idxA (k) Tryz.underlying62 Tryz.sizeOf61 rfl rfl (by omega) (by omega)) rfl ?_
    refine g_v (v_fieldAddr 1 Tryz.underlying61 rfl rfl Tryz.sizeOf3 (by decide) rfl) rfl ?_
    refine g_v (v_load (v := I (X.B k).2) Tryz.isAgg3 rfl (xC_refs (by omega) (by omega))) rfl ?_
    refine g_v (v_gtr rfl rfl) rfl ?_
    refine g_nil ?_
    refine g_cond rfl (fun h16 => ?_) (fun h16 => ?_)
    · simp at h16
      refine g_reg ?_
      refine g_v (v_move rfl) rfl ?_
      refine g_v (v_move rfl) rfl ?_
      refine g_l (l_buildSlice [[I k]] Tryz.underlying82 Tryz.sizeOf3 Tryz.zeroValue3 rfl rfl rfl (by simp) (by decide) (by decide)) rfl ?_
      rintro _ _ ⟨b19, rfl, rfl⟩
      refine g_l (l_append Tryz.underlying82 Tryz.sizeOf3 Tryz.zeroValue3 rfl Tryz.typeInfo3 (by decide) rfl rfl (intR_len _) rfl (by simp) (by intro r hr; simp at hr; subst hr; rfl) ⟨by omega, by decide, by decide⟩) rfl ?_
      rintro _ _ ⟨s20, c20, rfl, rfl⟩
      refine g_v (v_assign rfl) rfl ?_
      refine g_nil ?_
      refine g_blk ?_
      refine g_reg ?_
      refine g_v (v_move rfl) rfl ?_
      refine g_v (v_add rfl rfl (w64 (by omega))) rfl ?_
      refine g_v (v_assign rfl) rfl ?_
      refine g_nil ?_
      rw [show intR zs ++ [[I k]] = intR (zs ++ [(k : Int)]) by simp [intR]]
      refine g_again (k + 1, zs ++ [(k : Int)], s20, c20) ⟨by simp only []; omega, ?_⟩ (by simp only []; omega) [0, 3, 4] rfl (by simp [U])
      simp only []
      rw [hz, show k + 1 - 1 = (k - 1) + 1 by omega, idsT_hit (k := k) (m := k - 1) (by omega) (by rw [bt_some ⟨by omega, by simp; omega⟩]; rfl)]
    · simp at h16
      refine g_skip ?_
      refine g_blk ?_
      refine g_reg ?_
      refine g_v (v_move rfl) rfl ?_
      refine g_v (v_add rfl rfl (w64 (by omega))) rfl ?_
      refine g_v (v_assign rfl) rfl ?_
      refine g_nil ?_
      refine g_again (k + 1, zs, s, c) ⟨by simp only []; omega, ?_⟩ (by simp only []; omega) [0, 3, 4] rfl rfl
      simp only []
      rw [hz, show k + 1 - 1 = (k - 1) + 1 by omega, idsT_miss (k := k) (m := k - 1) (by omega) (bt_none (fun h => by have := hx k (by omega); have := h.2; simp at this; omega))]
  · simp at h6
    obtain rfl : k = 41 := by omega
    refine g_exit rfl ?_
    refine g_seq ?_
    refine g_reg ?_
    refine g_v (v_move rfl) rfl ?_
    refine g_v (v_assign rfl) rfl ?_
    refine g_nil ?_
    obtain rfl : zs = ids 40 (bt X) := hz
    exact g_retSl rfl rfl rfl rfl

end Go.Proofs.YthdjckbjjfiopaaGreatDoor
