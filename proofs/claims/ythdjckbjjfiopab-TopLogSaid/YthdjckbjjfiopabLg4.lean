/- Walks through the reference's reading of a log, and what compares deeds. No condition. -/
import Derived.Test.YthdjckbjjfiopabLg3
import Derived.Test.YthdjckbjjfiopabLib1
namespace Go.Proofs.Ythdjckbjjfiopab
open Go.Sl Go.Proofs
set_option linter.unusedVariables false
set_option linter.unusedSimpArgs false
def secL (l : List Bytes) (i : Nat) : Bytes := l.getD i []
theorem secL_at {l : List Bytes} {i : Nat} {x : Bytes} (h : l[i]? = some x) : secL l i = x := by unfold secL; rw [List.getD_eq_getElem?_getD, h]; rfl
def RClosed (TC : Nat) (l : List Bytes) (first : Nat) (A F : List HProp) : Value → List HProp → Prop := fun v L' => ∃ (gl : LogG) (so : Option Addr) (co used : Nat),
  v = .tuple #[sl so gl.length co, I used] ∧ scanF first (secL l) l.length 0 [] [] 0 = (gl.map (·.1), used) ∧ used ≤ l.length ∧ gl.length ≤ l.length ∧ L' = owL TC 1 so co (dR gl) :: dees gl :: (A ++ F)
theorem prN_nn : ∀ s : Bytes, 0 ≤ (prS s).2
  | [] => by simp [prS]
  | [_] => by simp [prS]
  | x0 :: x1 :: r => by rw [pr_cons]; split; simp; split <;> simp
theorem look_no1 {num : Nat} {s : Bytes} (h : ¬ ((s.take 5).drop 1 = fourN num ∧ skN s ≤ 73)) : lookB num s = none := by unfold lookB; rw [if_neg (fun h' => h ⟨h'.1, h'.2.2⟩)]
theorem look_no2 {num : Nat} {s : Bytes} (h : ¬ (sk s 0 = 111 ∨ sk s 0 = 99)) : lookB num s = none := by unfold lookB; rw [if_neg (fun h' => h h'.2.1)]
theorem look_is {num : Nat} {s : Bytes} (h1 : (s.take 5).drop 1 = fourN num) (h2 : skN s ≤ 73) (h3 : sk s 0 = 111 ∨ sk s 0 = 99) : lookB num s = some (sk s 0, (s.take (7 + skN s)).drop 7) := by unfold lookB; rw [if_pos ⟨h1, h3, h2⟩]

-- counterfoil/counterfoilref.ClosedDeeds is not in this seat
theorem ct_R_SameDeeds (ga gb : LogG) (s s' : Option Addr) (ca cb : Nat) (ha : ga.length ≤ 1000000 ∧ ∀ x ∈ ga, x.1.length ≤ 1000000) (hb : gb.length ≤ 1000000 ∧ ∀ x ∈ gb, x.1.length ≤ 1000000) (F : List HProp) : Ct Try.prog 49 [sl s ga.length ca, sl s' gb.length cb] ([roL 1 s (dR ga), dees ga, roL 1 s' (dR gb), dees gb] ++ F) (R1 (Bo (decide (ga.map (·.1) = gb.map (·.1)))) (roL 1 s (dR ga) :: dees ga :: roL 1 s' (dR gb) :: dees gb :: F)) := by
  show Ct Try.prog 49 [sl s ga.length ca, sl s' gb.length cb] (roL 1 s (dR ga) :: dees ga :: roL 1 s' (dR gb) :: dees gb :: F) _
  refine Ct.of Try.func49 rfl 29 Try.ntmps49 (by simp) fun w0 => ?_
  refine g_seq ?_
  refine g_reg ?_
  refine g_v (v_assign rfl) rfl ?_
  refine g_nil ?_
  refine g_seq ?_
  refine g_seq ?_
  refine g_reg ?_
  refine g_v (v_move rfl) rfl ?_
  refine g_v (v_len Try.underlying81 rfl) rfl ?_
  refine g_v (v_move rfl) rfl ?_
  refine g_v (v_len Try.underlying81 rfl) rfl ?_
  refine g_v (v_neq rfl rfl) rfl ?_
  refine g_nil ?_
  refine g_cond rfl (fun h11 => ?_) (fun h11 => ?_)
  · simp at h11
    refine g_seq ?_
    refine g_reg ?_
    refine g_v (v_assign rfl) rfl ?_
    refine g_nil ?_
    refine g_ret1 rfl rfl ?_
    show Bo false = _
    rw [decide_eq_false (fun e => h11 (by have := congrArg List.length e; simp at this; omega))]
  · simp at h11
    refine g_skip ?_
    refine g_seq ?_
    refine g_seq ?_
    refine g_reg ?_
    refine g_v (v_assign rfl) rfl ?_
    refine g_nil ?_
    refine g_block ?_
    refine g_loop (α := Nat) (fun k => k ≤ ga.length ∧ (ga.map (·.1)).take k = (gb.map (·.1)).take k) (fun k => U [(0, sl s ga.length ca), (1, sl s' gb.length cb), (5, I k)]) (fun _ => roL 1 s (dR ga) :: dees ga :: roL 1 s' (dR gb) :: dees gb :: F) (fun k => ga.length - k) 0 ⟨by simp, by simp⟩ [0, 1, 5] rfl rfl ?_
    rintro k ⟨hk, hab⟩
    refine g_seq ?_
    refine g_seq ?_
    refine g_reg ?_
    refine g_v (v_move rfl) rfl ?_
    refine g_v (v_move rfl) rfl ?_
    refine g_v (v_len Try.underlying81 rfl) rfl ?_
    refine g_v (v_lss rfl rfl) rfl ?_
    refine g_nil ?_
    refine g_cond rfl (fun h15 => ?_) (fun h15 => ?_)
    · simp at h15
      have hka : k < ga.length := by omega
      have hkb : k < gb.length := by omega
      obtain ⟨x, hx⟩ : ∃ x, ga[k]? = some x := ⟨_, List.getElem?_eq_getElem hka⟩
      obtain ⟨y, hy⟩ : ∃ y, gb[k]? = some y := ⟨_, List.getElem?_eq_getElem hkb⟩
      refine g_skip ?_
      refine g_seq ?_
      refine g_block ?_
      refine g_seq ?_
      refine g_deesAt gb (List.mem_of_getElem? hy) ?_
      refine g_deesAt ga (List.mem_of_getElem? hx) ?_
      refine g_draw (Lf := [roL 1 s (dR ga), roL 1 s' (dR gb)]) [(0, false), (1, false), (2, false), (3, false), (4, false), (5, false), (6, false), (7, false), (8, true), (9, false)] (by kernel_rfl) (by kernel_rfl) rfl (by kernel_rfl) ?_
      refine d_v rfl (v_move rfl) rfl ?_
      refine d_v rfl (v_move rfl) rfl ?_
      refine d_v rfl (v_idxS k Try.underlying81 Try.sizeOf44 rfl rfl rfl hka (by rw [dR_len]; exact hka)) rfl ?_
      refine d_v rfl (v_loadS0 (v := sl x.2.1 x.1.length x.2.2) Try.isAgg44 rfl (dR_at hx) rfl) rfl ?_
      refine d_v rfl (v_move rfl) rfl ?_
      refine d_v rfl (v_move rfl) rfl ?_
      refine d_v rfl (v_idxS k Try.underlying81 Try.sizeOf44 rfl rfl rfl hkb (by rw [dR_len]; exact hkb)) rfl ?_
      refine d_v rfl (v_loadS0 (v := sl y.2.1 y.1.length y.2.2) Try.isAgg44 rfl (dR_at hy) rfl) rfl ?_
      refine d_l rfl (l_call (Pre := [roL 3 x.2.1 (chR x.1), roL 3 y.2.1 (chR y.1)]) Try.call79 rfl (ct_R_SameChanges x.1 y.1 x.2.1 y.2.1 x.2.2 y.2.2 (ha.2 x (List.mem_of_getElem? hx)) (hb.2 y (List.mem_of_getElem? hy)))) rfl ?_
      rintro _ _ ⟨rfl, rfl⟩
      refine d_v rfl (v_assign rfl) rfl ?_
      refine d_nil ?_
      refine g_seq ?_
      refine g_reg ?_
      refine g_v (v_move rfl) rfl ?_
      refine g_v (v_not rfl) rfl ?_
      refine g_nil ?_
      refine g_cond rfl (fun h28 => ?_) (fun h28 => ?_)
      · simp at h28
        refine g_seq ?_
        refine g_reg ?_
        refine g_v (v_assign rfl) rfl ?_
        refine g_nil ?_
        refine g_ret1 rfl rfl ?_
        show Bo false = _
        rw [decide_eq_false (fun e => h28 (by have h1 : (ga.map (·.1))[k]? = some x.1 := by simp [hx]
                                              have h2 : (gb.map (·.1))[k]? = some y.1 := by simp [hy]
                                              rw [e, h2] at h1; injection h1 with h1; exact h1.symm))]
      · simp at h28
        have h27' := h28
        refine g_skip ?_
        refine g_blk ?_
        refine g_reg ?_
        refine g_v (v_move rfl) rfl ?_
        refine g_v (v_add rfl rfl (w64 (by omega))) rfl ?_
        refine g_v (v_assign rfl) rfl ?_
        refine g_nil ?_
        exact g_again (k + 1) ⟨by omega, take_eq_of hab (x := x.1) (y := y.1) (by simp [hx]) (by simp [hy]) h27'⟩ (by omega) [0, 1, 5] rfl rfl
    · simp at h15
      obtain rfl : k = ga.length := by omega
      refine g_exit rfl ?_
      refine g_seq ?_
      refine g_reg ?_
      refine g_v (v_assign rfl) rfl ?_
      refine g_nil ?_
      refine g_ret1 rfl rfl ?_
      show Bo true = _
      rw [decide_eq_true (show ga.map (·.1) = gb.map (·.1) by
          have e1 := List.take_of_length_le (l := ga.map (·.1)) (i := ga.length) (by simp)
          have e2 := List.take_of_length_le (l := gb.map (·.1)) (i := ga.length) (by simp; omega)
          rw [e1, e2] at hab; exact hab)]

end Go.Proofs.Ythdjckbjjfiopab
