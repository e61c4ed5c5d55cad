/- Walks through the checks, bytes and parsing of a row, of the program and of the reference. No condition. -/
import Derived.Test.YthdjckbjjfiopacLight
import Derived.Test.YthdjckbjjfiopacArea5
import Derived.Test.YthdjckbjjfiopacSlC
namespace Go.Proofs.Ythdjckbjjfiopac
open Go.Sl Go.Proofs
set_option linter.unusedVariables false
set_option linter.unusedSimpArgs false
def chkC (c : ChangeM) : Int := if c.key = [] ∨ (c.gone = true ∧ c.val ≠ []) then 3 else if 8 < c.key.length ∨ 48 < c.val.length then 2 else 0
theorem chkC_nn (c : ChangeM) : 0 ≤ chkC c := by unfold chkC; split; simp; split <;> simp
theorem chkC_ok {c : ChangeM} (h : chkC c = 0) : c.key ≠ [] ∧ (c.gone = true → c.val = []) ∧ c.key.length ≤ 8 ∧ c.val.length ≤ 48 := by
  unfold chkC at h
  split at h
  · cases h
  · rename_i h1
    split at h
    · cases h
    · exact ⟨fun hh => h1 (.inl hh), fun hg => Decidable.byContradiction fun hv => h1 (.inr ⟨hg, hv⟩), by omega, by omega⟩
def head2 (c : ChangeM) : Bytes := [if c.gone then 1 else 0, UInt8.ofNat c.key.length]
def rawC (c : ChangeM) : Bytes := head2 c ++ c.key ++ c.val
def bytS (c : ChangeM) : Bytes × Int := if chkC c = 0 then (rawC c, 0) else ([], chkC c)
def noC : ChangeM := ⟨[], [], false⟩
def cutC (x0 x1 : UInt8) (r : Bytes) : ChangeM := ⟨r.take x1.toNat, r.drop x1.toNat, decide ((x0.toNat : Int) = 1)⟩
def prS : Bytes → ChangeM × Int
  | x0 :: x1 :: r => if 1 < x0.toNat ∨ r.length < x1.toNat then (noC, 4) else if chkC (cutC x0 x1 r) = 0 then (cutC x0 x1 r, 0) else (noC, 4)
  | _ => (noC, 4)
theorem pr_cons (x0 x1 : UInt8) (r : Bytes) : prS (x0 :: x1 :: r) = if 1 < x0.toNat ∨ r.length < x1.toNat then (noC, 4) else if chkC (cutC x0 x1 r) = 0 then (cutC x0 x1 r, 0) else (noC, 4) := rfl
theorem head2_rows {c : ChangeM} (h : c.key.length ≤ 8) : [[By (if c.gone then 1 else 0)], [By (c.key.length : Int)]] = bytesR (head2 c) := by
  have e : (UInt8.ofNat c.key.length).toNat = c.key.length := by rw [UInt8.toNat_ofNat']; omega
  unfold bytesR head2
  rw [List.map_cons, List.map_cons, List.map_nil, e]
  cases c.gone <;> rfl
theorem bldC0 (w : World) : (Instr.build 111 #[]).run Try.prog w = .ok (.agg (encC noC).toArray) w := by
  simp [Instr.build, Try.zeroValue111, Try.runUnderlying111, Try.sizeOf4, Try.sizeOf9, Instr.fill, cells_agg, encC, noC]
theorem two_bytes {s : Bytes} (h : ¬ s.length < 2) : ∃ x0 x1 r, s = x0 :: x1 :: r := by
  match s, h with
  | x0 :: x1 :: r, _ => exact ⟨x0, x1, r, rfl⟩
  | [x], h => simp at h
  | [], h => simp at h

theorem ct_row_Check (c : ChangeM) (F : List HProp) : Ct Try.prog 64 [.agg (encC c).toArray] ([] ++ F) (R1 (errV (chkC c)) F) := by
  show Ct Try.prog 64 [.agg (encC c).toArray] (F) _
  refine Ct.of Try.func64 rfl 27 Try.ntmps64 (by simp) fun w0 => ?_
  refine g_seq ?_
  refine g_reg ?_
  refine g_l (l_box (encC c).toArray rfl rfl) rfl ?_
  rintro _ _ ⟨b1, rfl, rfl⟩
  refine g_v (v_assign rfl) rfl ?_
  refine g_nil ?_
  refine g_seq ?_
  refine g_seq ?_
  refine g_reg ?_
  refine g_v (v_fieldAddr 0 Try.underlying111 rfl rfl Try.sizeOf9 (by decide) rfl) rfl ?_
  refine g_v (v_load (v := Str c.key) Try.isAgg9 rfl rfl) rfl ?_
  refine g_v (v_seql rfl rfl) rfl ?_
  refine g_v (v_move rfl) rfl ?_
  by_cases hk : c.key = []
  · skip
    refine g_no rfl rfl (by rw [decide_eq_true hk]; rfl) rfl ?_
    refine g_no rfl rfl (by rw [decide_eq_true hk]; rfl) rfl ?_
    refine g_no rfl rfl (by rw [decide_eq_true hk]; rfl) rfl ?_
    refine g_no rfl rfl rfl rfl ?_
    refine g_no rfl rfl rfl rfl ?_
    refine g_no rfl rfl rfl rfl ?_
    refine g_no rfl rfl (by rw [decide_eq_true hk]; rfl) rfl ?_
    refine g_v (v_pk1 rfl (decide_eq_true hk) rfl) rfl ?_
    refine g_nil ?_
    refine g_cond rfl (fun h14 => ?_) (fun h14 => ?_)
    · skip
      refine g_seq ?_
      refine g_reg ?_
      refine g_v (v_iface Try.underlying94 rfl rfl) rfl ?_
      refine g_v (v_assign rfl) rfl ?_
      refine g_nil ?_
      refine g_ret1 rfl rfl ?_
      show _ = errV _
      rw [show chkC c = 3 by unfold chkC; rw [if_pos (.inl hk)]]
      rfl
    · exact absurd h14 (by simp)
  · skip
    refine g_gv1 rfl rfl (decide_eq_false hk) (v_fieldAddr 2 Try.underlying111 rfl rfl Try.sizeOf4 (by decide) rfl) rfl ?_
    refine g_gv1 rfl rfl (decide_eq_false hk) (v_load (v := Bo c.gone) Try.isAgg4 rfl rfl) rfl ?_
    refine g_gv1 rfl rfl (decide_eq_false hk) (v_move rfl) rfl ?_
    refine g_gv rfl rfl (fun hg => v_fieldAddr 1 Try.underlying111 rfl rfl Try.sizeOf9 (by decide) rfl) rfl rfl ?_
    refine g_gv rfl rfl (fun hg => v_load (v := Str c.val) Try.isAgg9 rfl rfl) rfl rfl ?_
    refine g_gv rfl rfl (fun hg => v_sneq rfl rfl) rfl rfl ?_
    refine g_gv1 rfl rfl (decide_eq_false hk) (v_and rfl rfl) rfl ?_
    refine g_v (v_or rfl rfl) rfl ?_
    refine g_nil ?_
    refine g_cond rfl (fun h14 => ?_) (fun h14 => ?_)
    · simp at h14
      have h14' : c.gone = true ∧ c.val ≠ [] := by rcases h14 with h | h; exact absurd h hk; exact h
      refine g_seq ?_
      refine g_reg ?_
      refine g_v (v_iface Try.underlying94 rfl rfl) rfl ?_
      refine g_v (v_assign rfl) rfl ?_
      refine g_nil ?_
      refine g_ret1 rfl rfl ?_
      show _ = errV _
      rw [show chkC c = 3 by unfold chkC; rw [if_pos (.inr h14')]]
      rfl
    · simp at h14
      have h14' : ¬ (c.key = [] ∨ (c.gone = true ∧ c.val ≠ [])) := fun hh => by rcases hh with h | h; exact hk h; exact h.2 (h14.2 h.1)
      refine g_skip ?_
      refine g_seq ?_
      refine g_seq ?_
      refine g_reg ?_
      refine g_v (v_fieldAddr 0 Try.underlying111 rfl rfl Try.sizeOf9 (by decide) rfl) rfl ?_
      refine g_v (v_load (v := Str c.key) Try.isAgg9 rfl rfl) rfl ?_
      refine g_v (v_slen Try.underlying9 rfl) rfl ?_
      refine g_v (v_gtr rfl rfl) rfl ?_
      refine g_v (v_move rfl) rfl ?_
      refine g_gv rfl rfl (fun hg => v_fieldAddr 1 Try.underlying111 rfl rfl Try.sizeOf9 (by decide) rfl) rfl rfl ?_
      refine g_gv rfl rfl (fun hg => v_load (v := Str c.val) Try.isAgg9 rfl rfl) rfl rfl ?_
      refine g_gv rfl rfl (fun hg => v_slen Try.underlying9 rfl) rfl rfl ?_
      refine g_gv rfl rfl (fun hg => v_gtr rfl rfl) rfl rfl ?_
      refine g_v (v_or rfl rfl) rfl ?_
      refine g_nil ?_
      refine g_cond rfl (fun h25 => ?_) (fun h25 => ?_)
      · simp at h25
        refine g_seq ?_
        refine g_reg ?_
        refine g_v (v_iface Try.underlying94 rfl rfl) rfl ?_
        refine g_v (v_assign rfl) rfl ?_
        refine g_nil ?_
        refine g_ret1 rfl rfl ?_
        show _ = errV _
        rw [show chkC c = 2 by unfold chkC; rw [if_neg h14', if_pos (by omega)]]
        rfl
      · simp at h25
        refine g_skip ?_
        refine g_seq ?_
        refine g_reg ?_
        refine g_v (v_assign rfl) rfl ?_
        refine g_nil ?_
        refine g_ret1 rfl rfl ?_
        show _ = errV _
        rw [show chkC c = 0 by unfold chkC; rw [if_neg h14', if_neg (by omega)]]
        rfl

-- counterfoil/counterfoilref.ChangeFault is not in this seat
theorem ct_row_Bytes (c : ChangeM) (F : List HProp) : Ct Try.prog 121 [.agg (encC c).toArray] ([] ++ F) (R1 (.tuple #[Str (bytS c).1, errV (bytS c).2]) F) := by
  show Ct Try.prog 121 [.agg (encC c).toArray] (F) _
  refine Ct.of Try.func121 rfl 26 Try.ntmps121 (by simp) fun w0 => ?_
  refine g_seq ?_
  refine g_reg ?_
  refine g_l (l_box (encC c).toArray rfl rfl) rfl ?_
  rintro _ _ ⟨b1, rfl, rfl⟩
  refine g_v (v_assign rfl) rfl ?_
  refine g_v (v_assign rfl) rfl ?_
  refine g_nil ?_
  refine g_seq ?_
  refine g_reg ?_
  refine g_v (v_loadA (vs := encC (c)) Try.isAgg111 Try.sizeOf111 rfl rfl arr_ld) rfl ?_
  refine g_l (l_call (Pre := []) Try.call64 rfl (ct_row_Check c)) rfl ?_
  rintro _ _ ⟨rfl, rfl⟩
  refine g_v (v_assign rfl) rfl ?_
  refine g_nil ?_
  refine g_seq ?_
  refine g_seq ?_
  refine g_reg ?_
  refine g_v (v_move rfl) rfl ?_
  refine g_v (v_ineq Try.underlying33 rfl) rfl ?_
  refine g_nil ?_
  refine g_cond rfl (fun h9 => ?_) (fun h9 => ?_)
  · simp at h9
    have hb : bytS c = ([], chkC c) := by unfold bytS; rw [if_neg (by omega)]
    refine g_seq ?_
    refine g_reg ?_
    refine g_v (v_move rfl) rfl ?_
    refine g_v (v_assign rfl) rfl ?_
    refine g_v (v_assign rfl) rfl ?_
    refine g_nil ?_
    exact g_ret1 rfl rfl (by rw [hb]; rfl)
  · simp at h9
    have h0 : chkC c = 0 := by have := chkC_nn c; omega
    have hb : bytS c = (rawC c, 0) := by unfold bytS; rw [if_pos h0]
    obtain ⟨_, _, hk8, hv48⟩ := chkC_ok h0
    refine g_skip ?_
    refine g_seq ?_
    refine g_reg ?_
    refine g_v (v_assign rfl) rfl ?_
    refine g_nil ?_
    refine g_seq ?_
    refine g_seq ?_
    refine g_reg ?_
    refine g_v (v_fieldAddr 2 Try.underlying111 rfl rfl Try.sizeOf4 (by decide) rfl) rfl ?_
    refine g_v (v_load (v := Bo c.gone) Try.isAgg4 rfl rfl) rfl ?_
    refine g_nil ?_
    refine g_cond rfl (fun h12 => ?_) (fun h12 => ?_)
    · skip
      refine g_reg ?_
      refine g_v (v_assign rfl) rfl ?_
      refine g_nil ?_
      refine g_seq ?_
      refine g_reg ?_
      refine g_v (v_move rfl) rfl ?_
      refine g_v (v_fieldAddr 0 Try.underlying111 rfl rfl Try.sizeOf9 (by decide) rfl) rfl ?_
      refine g_v (v_load (v := Str c.key) Try.isAgg9 rfl rfl) rfl ?_
      refine g_v (v_slen Try.underlying9 rfl) rfl ?_
      refine g_v (v_conv Try.underlying3 Try.underlying5 rfl (w8 (by omega))) rfl ?_
      refine g_l (l_buildSlice (bytesR (head2 c)) Try.underlying128 Try.sizeOf5 Try.zeroValue5 rfl rfl (by have hr := head2_rows hk8; rw [h12] at hr; exact hr) (by simp [bytesR]) (by decide) (by decide)) rfl ?_
      rintro _ _ ⟨b18, rfl, rfl⟩
      refine g_v (v_bytesStr (l := head2 c) Try.underlying128 Try.underlying5 Try.underlying9 rfl rfl rfl) rfl ?_
      refine g_v (v_fieldAddr 0 Try.underlying111 rfl rfl Try.sizeOf9 (by decide) rfl) rfl ?_
      refine g_v (v_load (v := Str c.key) Try.isAgg9 rfl rfl) rfl ?_
      refine g_v (v_cat rfl rfl (by simp [head2]; omega)) rfl ?_
      refine g_v (v_fieldAddr 1 Try.underlying111 rfl rfl Try.sizeOf9 (by decide) rfl) rfl ?_
      refine g_v (v_load (v := Str c.val) Try.isAgg9 rfl rfl) rfl ?_
      refine g_v (v_cat rfl rfl (by simp [head2]; omega)) rfl ?_
      refine g_v (v_assign rfl) rfl ?_
      refine g_v (v_assign rfl) rfl ?_
      refine g_nil ?_
      exact g_ret1 rfl rfl (by rw [hb]; rfl)
    · skip
      refine g_skip ?_
      refine g_seq ?_
      refine g_reg ?_
      refine g_v (v_move rfl) rfl ?_
      refine g_v (v_fieldAddr 0 Try.underlying111 rfl rfl Try.sizeOf9 (by decide) rfl) rfl ?_
      refine g_v (v_load (v := Str c.key) Try.isAgg9 rfl rfl) rfl ?_
      refine g_v (v_slen Try.underlying9 rfl) rfl ?_
      refine g_v (v_conv Try.underlying3 Try.underlying5 rfl (w8 (by omega))) rfl ?_
      refine g_l (l_buildSlice (bytesR (head2 c)) Try.underlying128 Try.sizeOf5 Try.zeroValue5 rfl rfl (by have hr := head2_rows hk8; rw [h12] at hr; exact hr) (by simp [bytesR]) (by decide) (by decide)) rfl ?_
      rintro _ _ ⟨b18, rfl, rfl⟩
      refine g_v (v_bytesStr (l := head2 c) Try.underlying128 Try.underlying5 Try.underlying9 rfl rfl rfl) rfl ?_
      refine g_v (v_fieldAddr 0 Try.underlying111 rfl rfl Try.sizeOf9 (by decide) rfl) rfl ?_
      refine g_v (v_load (v := Str c.key) Try.isAgg9 rfl rfl) rfl ?_
      refine g_v (v_cat rfl rfl (by simp [head2]; omega)) rfl ?_
      refine g_v (v_fieldAddr 1 Try.underlying111 rfl rfl Try.sizeOf9 (by decide) rfl) rfl ?_
      refine g_v (v_load (v := Str c.val) Try.isAgg9 rfl rfl) rfl ?_
      refine g_v (v_cat rfl rfl (by simp [head2]; omega)) rfl ?_
      refine g_v (v_assign rfl) rfl ?_
      refine g_v (v_assign rfl) rfl ?_
      refine g_nil ?_
      exact g_ret1 rfl rfl (by rw [hb]; rfl)

-- counterfoil/counterfoilref.ChangeBytes is not in this seat
theorem ct_row_Parse (s : Bytes) (hs : s.length ≤ 4611686018427387904) (F : List HProp) : Ct Try.prog 92 [Str s] ([] ++ F) (R1 (.tuple #[.agg (encC (prS s).1).toArray, errV (prS s).2]) F) := by
  show Ct Try.prog 92 [Str s] (F) _
  refine Ct.of Try.func92 rfl 45 Try.ntmps92 (by simp) fun w0 => ?_
  refine g_seq ?_
  refine g_reg ?_
  refine g_l (l_alloc #[Str [], Str [], Bo false] Try.zeroValue111) rfl ?_
  rintro _ _ ⟨b2, rfl, rfl⟩
  refine g_v (v_assign rfl) rfl ?_
  refine g_nil ?_
  refine g_seq ?_
  refine g_seq ?_
  refine g_reg ?_
  refine g_v (v_move rfl) rfl ?_
  refine g_v (v_slen Try.underlying9 rfl) rfl ?_
  refine g_v (v_lss rfl rfl) rfl ?_
  refine g_v (v_move rfl) rfl ?_
  by_cases h2 : s.length < 2
  · have hp : prS s = (noC, 4) := by match s, h2 with | [], _ => rfl | [_], _ => rfl
    refine g_no rfl rfl (by rw [decide_eq_true (by omega)]; rfl) rfl ?_
    refine g_no rfl rfl (by rw [decide_eq_true (by omega)]; rfl) rfl ?_
    refine g_no rfl rfl (by rw [decide_eq_true (by omega)]; rfl) rfl ?_
    refine g_v (v_pk1 rfl (by simp; omega) rfl) rfl ?_
    refine g_v (v_move rfl) rfl ?_
    refine g_no rfl rfl (by rfl) rfl ?_
    refine g_no rfl rfl (by rfl) rfl ?_
    refine g_no rfl rfl (by rfl) rfl ?_
    refine g_no rfl rfl (by rfl) rfl ?_
    refine g_no rfl rfl (by rfl) rfl ?_
    refine g_no rfl rfl (by rfl) rfl ?_
    refine g_no rfl rfl (by rfl) rfl ?_
    refine g_v (v_pk1 rfl rfl rfl) rfl ?_
    refine g_nil ?_
    refine g_cond rfl (fun h22 => ?_) (fun h22 => ?_)
    · skip
      refine g_seq ?_
      refine g_reg ?_
      refine g_v (v_build rfl bldC0) rfl ?_
      refine g_v (v_iface Try.underlying94 rfl rfl) rfl ?_
      refine g_l0 (l_storeA (cs := #[Str [], Str [], Bo false]) (vs := encC noC) (encC noC).toArray Try.sizeOf111 rfl rfl rfl rfl (by decide) (splice_all rfl)) ?_
      rintro _ _ rfl
      refine g_v (v_assign rfl) rfl ?_
      refine g_nil ?_
      exact g_retCT (encC noC) (by rw [hp] <;> rfl) rfl rfl rfl Try.isAgg111 Try.sizeOf111 rfl arr_ld
    · exact absurd h22 (by simp)
  · obtain ⟨x0, x1, r, rfl⟩ := two_bytes h2
    have hx0 := x0.toNat_lt
    have hx1 := x1.toNat_lt
    refine g_gv1 rfl rfl (decide_eq_false (by omega)) (v_move rfl) rfl ?_
    refine g_gv1 rfl rfl (decide_eq_false (by omega)) (v_indexStr (r := x0) 0 Try.underlying9 rfl rfl rfl rfl) rfl ?_
    refine g_gv1 rfl rfl (decide_eq_false (by omega)) (v_gtr rfl rfl) rfl ?_
    refine g_v (v_or rfl rfl) rfl ?_
    refine g_v (v_move rfl) rfl ?_
    refine g_gv rfl rfl (fun hg => v_move rfl) rfl rfl ?_
    refine g_gv rfl rfl (fun hg => v_indexStr (r := x1) 1 Try.underlying9 rfl rfl rfl rfl) rfl rfl ?_
    refine g_gv rfl rfl (fun hg => v_conv Try.underlying5 Try.underlying3 rfl (w64 (by omega))) rfl rfl ?_
    refine g_gv rfl rfl (fun hg => v_add rfl rfl (w64 (by simp at hg; omega))) rfl rfl ?_
    refine g_gv rfl rfl (fun hg => v_move rfl) rfl rfl ?_
    refine g_gv rfl rfl (fun hg => v_slen Try.underlying9 rfl) rfl rfl ?_
    refine g_gv rfl rfl (fun hg => v_gtr rfl rfl) rfl rfl ?_
    refine g_v (v_or rfl rfl) rfl ?_
    refine g_nil ?_
    refine g_cond rfl (fun h22 => ?_) (fun h22 => ?_)
    · simp at h22
      have hp : prS (x0 :: x1 :: r) = (noC, 4) := by rw [pr_cons, if_pos (by omega)]
      refine g_seq ?_
      refine g_reg ?_
      refine g_v (v_build rfl bldC0) rfl ?_
      refine g_v (v_iface Try.underlying94 rfl rfl) rfl ?_
      refine g_l0 (l_storeA (cs := #[Str [], Str [], Bo false]) (vs := encC noC) (encC noC).toArray Try.sizeOf111 rfl rfl rfl rfl (by decide) (splice_all rfl)) ?_
      rintro _ _ rfl
      refine g_v (v_assign rfl) rfl ?_
      refine g_nil ?_
      exact g_retCT (encC noC) (by rw [hp] <;> rfl) rfl rfl rfl Try.isAgg111 Try.sizeOf111 rfl arr_ld
    · simp at h22
      have h22' : ¬ (1 < x0.toNat ∨ r.length < x1.toNat) := by omega
      refine g_skip ?_
      refine g_seq ?_
      refine g_reg ?_
      refine g_v (v_move rfl) rfl ?_
      refine g_v (v_indexStr (r := x1) 1 Try.underlying9 rfl rfl rfl rfl) rfl ?_
      refine g_v (v_conv Try.underlying5 Try.underlying3 rfl (w64 (by omega))) rfl ?_
      refine g_v (v_add rfl rfl (w64 (by omega))) rfl ?_
      refine g_v (v_assign rfl) rfl ?_
      refine g_nil ?_
      refine g_seq ?_
      refine g_drawL [(0, false), (1, false), (2, false), (3, false), (4, false), (5, false), (6, false), (7, false), (8, false), (9, false), (10, true), (11, true)] (by kernel_rfl) (by kernel_rfl) rfl (by kernel_rfl) ?_
      refine d_v rfl (v_move rfl) rfl ?_
      refine d_v rfl (v_move rfl) rfl ?_
      refine d_v rfl (v_strBoth (l := 2) (h := x1.toNat + 2) Try.underlying9 rfl rfl rfl rfl (by omega) (by omega) (by simp; omega)) rfl ?_
      refine d_v rfl (v_move rfl) rfl ?_
      refine d_v rfl (v_move rfl) rfl ?_
      refine d_v rfl (v_strLo (l := x1.toNat + 2) Try.underlying9 rfl rfl (by omega) (by simp; omega)) rfl ?_
      refine d_v rfl (v_move rfl) rfl ?_
      refine d_v rfl (v_indexStr (r := x0) 0 Try.underlying9 rfl rfl rfl rfl) rfl ?_
      refine d_v rfl (v_eql rfl rfl) rfl ?_
      refine d_v rfl (v_build rfl (bld111_0_1_2 _ rfl _ rfl _ rfl)) rfl ?_
      refine d_l rfl (l_alloc #[Str [], Str [], Bo false] Try.zeroValue111) rfl ?_
      rintro _ _ ⟨b5, rfl, rfl⟩
      refine d_l0 rfl (l_storeA (cs := #[Str [], Str [], Bo false]) (vs := encC (cutC x0 x1 r)) (encC (cutC x0 x1 r)).toArray Try.sizeOf111 rfl rfl rfl rfl (by decide) (splice_all rfl)) ?_
      rintro _ _ rfl
      refine d_nil ?_
      refine g_seq ?_
      refine g_seq ?_
      refine g_reg ?_
      refine g_v (v_loadA (vs := encC (cutC x0 x1 r)) Try.isAgg111 Try.sizeOf111 rfl rfl arr_ld) rfl ?_
      refine g_l (l_call (Pre := []) Try.call64 rfl (ct_row_Check (cutC x0 x1 r))) rfl ?_
      rintro _ _ ⟨rfl, rfl⟩
      refine g_v (v_ineq Try.underlying33 rfl) rfl ?_
      refine g_nil ?_
      refine g_cond rfl (fun h41 => ?_) (fun h41 => ?_)
      · simp at h41
        have hp : prS (x0 :: x1 :: r) = (noC, 4) := by rw [pr_cons, if_neg h22', if_neg (by omega)]
        refine g_seq ?_
        refine g_reg ?_
        refine g_v (v_build rfl bldC0) rfl ?_
        refine g_v (v_iface Try.underlying94 rfl rfl) rfl ?_
        refine g_l0 (l_storeA (cs := #[Str [], Str [], Bo false]) (vs := encC noC) (encC noC).toArray Try.sizeOf111 rfl rfl rfl rfl (by decide) (splice_all rfl)) ?_
        rintro _ _ rfl
        refine g_v (v_assign rfl) rfl ?_
        refine g_nil ?_
        exact g_retCT (encC noC) (by rw [hp] <;> rfl) rfl rfl rfl Try.isAgg111 Try.sizeOf111 rfl arr_ld
      · simp at h41
        have hc0 : chkC (cutC x0 x1 r) = 0 := by have := chkC_nn (cutC x0 x1 r); omega
        have hp : prS (x0 :: x1 :: r) = (cutC x0 x1 r, 0) := by rw [pr_cons, if_neg h22', if_pos hc0]
        refine g_skip ?_
        refine g_seq ?_
        refine g_reg ?_
        refine g_v (v_loadA (vs := encC (cutC x0 x1 r)) Try.isAgg111 Try.sizeOf111 rfl rfl arr_ld) rfl ?_
        refine g_l0 (l_storeA (cs := #[Str [], Str [], Bo false]) (vs := encC (cutC x0 x1 r)) (encC (cutC x0 x1 r)).toArray Try.sizeOf111 rfl rfl rfl rfl (by decide) (splice_all rfl)) ?_
        rintro _ _ rfl
        refine g_v (v_assign rfl) rfl ?_
        refine g_nil ?_
        exact g_retCT (encC (cutC x0 x1 r)) (by rw [hp] <;> rfl) rfl rfl rfl Try.isAgg111 Try.sizeOf111 rfl arr_ld

-- counterfoil/counterfoilref.ChangeOf is not in this seat
end Go.Proofs.Ythdjckbjjfiopac
