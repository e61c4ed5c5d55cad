/- Walks through what applies changes to rows, and what compares rows. No condition. -/
import Derived.Test.YthdjckbjjfiopaaRowIns
import Derived.Test.YthdjckbjjfiopaaRowS
import Derived.Test.YthdjckbjjfiopaaSlC
namespace Go.Proofs.Ythdjckbjjfiopaa
open Go Go.Sl Go.Proofs
set_option linter.unusedVariables false
set_option linter.unusedSimpArgs false
def RBool (P : Bool → Prop) (F : List HProp) : Value → List HProp → Prop := fun v L' => ∃ b, v = Bo b ∧ P b ∧ L' = F
section
variable {c : Cx} {E : Env} {L : List HProp} {K : List KI}
theorem g_retBool {P : Bool → Prop} {F : List HProp} {vs : List Value} (b : Bool) (hR : c.R = RBool P F) (hr : resOf E c.fn.results.toList = some vs) (hv : tup vs = Bo b) (hp : P b) [S : Sub L F] (hds : c.n.ds = [] := by rfl) : G c (.code .ret :: K) E L :=
  fun a w hE hS => wp_ret (kq_ret (res_fpost (hds := hds) hr hE (S.sat hS) (by rw [hR]; exact ⟨b, hv, hp, rfl⟩)))
end
theorem srt_more {l : List ChangeM} {k : Nat} {x : ChangeM} (h : srt (l.take k)) (hx : l[k]? = some x) (hp : k = 0 ∨ ∃ y, l[k - 1]? = some y ∧ kl y.key x.key = true) : srt (l.take (k + 1)) := by
  rw [take_at hx]
  refine List.pairwise_append.2 ⟨h, by simp, fun a ha b hb => ?_⟩
  simp at hb
  subst hb
  rcases hp with rfl | ⟨y, hy, hyx⟩
  · simp at ha
  · obtain ⟨i, hi, rfl⟩ := List.getElem_of_mem ha
    have hik : i < k := by simp at hi; omega
    have hk := (List.getElem?_eq_some_iff.1 hy).1
    by_cases he : i = k - 1
    · subst he
      have : (l.take k)[k - 1] = y := by
        have h1 := (List.getElem?_eq_some_iff.1 hy).2
        rw [List.getElem_take]; exact h1
      rw [this]; exact hyx
    · have h2 := List.pairwise_iff_getElem.1 h i (k - 1) hi (by simp; omega) (by omega)
      have : (l.take k)[k - 1]'(by simp; omega) = y := by
        have h1 := (List.getElem?_eq_some_iff.1 hy).2
        rw [List.getElem_take]; exact h1
      rw [this] at h2
      exact kl_trans h2 hyx
theorem srt_aps {l : List ChangeM} (h : srt l) : ∀ cs : List ChangeM, srt (apsS l cs) ∧ (apsS l cs).length ≤ l.length + cs.length := by
  intro cs
  induction cs generalizing l with
  | nil => exact ⟨h, by simp [apsS]⟩
  | cons c cs ih =>
    have := ih (srt_ap h c)
    have h2 := ap_len l c h
    refine ⟨this.1, ?_⟩
    have h3 := this.2
    simp only [apsS, List.foldl_cons, List.length_cons] at h3 ⊢
    omega
theorem is_lt {l : List ChangeM} (h : srt l) {k : Bytes} (hi : isS l k = true) : lbS l k < l.length := by
  rw [lb_is h] at hi
  split at hi
  · rename_i r hr; exact (List.getElem?_eq_some_iff.1 hr).1
  · cases hi
section
variable {c r : ChangeM} {z : Bool × List ChangeM}
theorem step_tt (h : (!z.1 && (kl c.key r.key || decide (c.key = r.key))) = true) (h2 : r.key ≠ c.key) : stepN c z r = (true, z.2 ++ [c] ++ [r]) := by unfold stepN; rw [if_pos h, if_pos h2]
theorem step_tf (h : (!z.1 && (kl c.key r.key || decide (c.key = r.key))) = true) (h2 : ¬ r.key ≠ c.key) : stepN c z r = (true, z.2 ++ [c]) := by unfold stepN; rw [if_pos h, if_neg h2]
theorem step_ft (h : ¬ (!z.1 && (kl c.key r.key || decide (c.key = r.key))) = true) (h2 : r.key ≠ c.key) : stepN c z r = (z.1, z.2 ++ [r]) := by unfold stepN; rw [if_neg h, if_pos h2]
theorem step_ff (h : ¬ (!z.1 && (kl c.key r.key || decide (c.key = r.key))) = true) (h2 : ¬ r.key ≠ c.key) : stepN c z r = z := by unfold stepN; rw [if_neg h, if_neg h2]
end
theorem nx_len (c : ChangeM) : ∀ (l : List ChangeM) (z : Bool × List ChangeM), (l.foldl (stepN c) z).2.length ≤ z.2.length + 2 * l.length
  | [], z => by simp
  | r :: l, z => by
    have h1 := nx_len c l (stepN c z r)
    have h2 : (stepN c z r).2.length ≤ z.2.length + 2 := by
      unfold stepN
      simp only
      split <;> split <;> simp
    simp only [List.foldl_cons, List.length_cons]
    omega
theorem chR_snoc (a : List ChangeM) (x : ChangeM) : chR a ++ [encC x] = chR (a ++ [x]) := by simp [chR]

theorem ct_L_goodRows (l : List ChangeM) (s : Option Addr) (cap : Nat) (hl : l.length ≤ 1000000) (F : List HProp) : Ct Try.prog 63 [sl s l.length cap] ([roL 3 s (chR l)] ++ F) (RBool (fun b => b = true → srt l) (roL 3 s (chR l) :: F)) := by
  show Ct Try.prog 63 [sl s l.length cap] (roL 3 s (chR l) :: F) _
  refine Ct.of Try.func63 rfl 41 Try.ntmps63 (by simp) fun w0 => ?_
  refine g_seq ?_
  refine g_reg ?_
  refine g_v (v_assign rfl) rfl ?_
  refine g_nil ?_
  refine g_seq ?_
  refine g_seq ?_
  refine g_reg ?_
  refine g_v (v_assign rfl) rfl ?_
  refine g_nil ?_
  refine g_block ?_
  refine g_loop (α := Nat) (fun k => k ≤ l.length ∧ srt (l.take k)) (fun k => U [(0, sl s l.length cap), (3, I k)]) (fun _ => roL 3 s (chR l) :: F) (fun k => l.length - k) 0 ⟨by simp, by simp [srt]⟩ [0, 3] rfl rfl ?_
  rintro k ⟨hk, hst⟩
  refine g_seq ?_
  refine g_seq ?_
  refine g_reg ?_
  refine g_v (v_move rfl) rfl ?_
  refine g_v (v_move rfl) rfl ?_
  refine g_v (v_len Try.underlying50 rfl) rfl ?_
  refine g_v (v_lss rfl rfl) rfl ?_
  refine g_nil ?_
  refine g_cond rfl (fun h7 => ?_) (fun h7 => ?_)
  · simp at h7
    have hkn : k < l.length := by omega
    obtain ⟨x, hx⟩ : ∃ x, l[k]? = some x := ⟨_, List.getElem?_eq_getElem hkn⟩
    have hkr : k < (chR l).length := by rw [chR_len]; exact hkn
    refine g_skip ?_
    refine g_seq ?_
    refine g_block ?_
    refine g_seq ?_
    refine g_drawL [(0, false), (1, false), (2, false), (3, false), (4, true), (5, false), (6, false), (7, false), (8, false), (9, false), (10, false), (11, false), (12, false), (13, false), (14, false), (15, false), (16, false), (17, false), (18, false), (19, false), (20, false), (21, false), (22, false), (23, false), (24, false), (25, false), (26, false), (27, false), (28, false), (29, false), (30, false)] (by kernel_rfl) (by kernel_rfl) rfl (by kernel_rfl) ?_
    refine d_v rfl (v_move rfl) rfl ?_
    refine d_v rfl (v_move rfl) rfl ?_
    refine d_v rfl (v_idxS k Try.underlying50 Try.sizeOf95 rfl rfl rfl hkn hkr) rfl ?_
    refine d_v rfl (v_loadAS (row := encC x) Try.isAgg95 Try.sizeOf95 rfl (chR_at hx) rfl) rfl ?_
    refine d_l rfl (l_call (Pre := []) Try.call62 rfl (ct_R_ChangeFault x)) rfl ?_
    rintro _ _ ⟨rfl, rfl⟩
    refine d_v rfl (v_gtr rfl rfl) rfl ?_
    refine d_v rfl (v_move rfl) rfl ?_
    refine d_gv rfl rfl rfl (fun hg => v_move rfl) rfl rfl ?_
    refine d_gv rfl rfl rfl (fun hg => v_move rfl) rfl rfl ?_
    refine d_gv rfl rfl rfl (fun hg => v_idxS k Try.underlying50 Try.sizeOf95 rfl rfl rfl hkn hkr) rfl rfl ?_
    refine d_gv rfl rfl rfl (fun hg => v_fieldAdrS (j := k) 2 Try.underlying95 rfl rfl Try.sizeOf4 (by decide) rfl hkr) rfl rfl ?_
    refine d_gv rfl rfl rfl (fun hg => v_loadS (v := Bo x.gone) Try.isAgg4 rfl (chR_at hx) rfl) rfl rfl ?_
    refine d_v rfl (v_or rfl rfl) rfl ?_
    refine d_v rfl (v_move rfl) rfl ?_
    by_cases hq : (decide (0 < chkC x) || x.gone) = true
    · skip
      refine d_no rfl rfl rfl (by rw [hq]; rfl) rfl ?_
      refine d_no rfl rfl rfl (by rw [hq]; rfl) rfl ?_
      refine d_no rfl rfl rfl (by rw [hq]; rfl) rfl ?_
      refine d_no rfl rfl rfl rfl rfl ?_
      refine d_no rfl rfl rfl rfl rfl ?_
      refine d_no rfl rfl rfl rfl rfl ?_
      refine d_no rfl rfl rfl rfl rfl ?_
      refine d_no rfl rfl rfl rfl rfl ?_
      refine d_no rfl rfl rfl rfl rfl ?_
      refine d_no rfl rfl rfl rfl rfl ?_
      refine d_no rfl rfl rfl rfl rfl ?_
      refine d_no rfl rfl rfl rfl rfl ?_
      refine d_no rfl rfl rfl rfl rfl ?_
      refine d_no rfl rfl rfl rfl rfl ?_
      refine d_no rfl rfl rfl rfl rfl ?_
      refine d_no rfl rfl rfl (by rw [hq]; rfl) rfl ?_
      refine d_v rfl (v_pk1 rfl hq rfl) rfl ?_
      refine d_nil ?_
      refine g_cond rfl (fun h40 => ?_) (fun h40 => ?_)
      · skip
        refine g_seq ?_
        refine g_reg ?_
        refine g_v (v_assign rfl) rfl ?_
        refine g_nil ?_
        exact g_retBool false rfl rfl rfl (fun h => by cases h)
      · exact absurd h40 (by simp)
    · have hq' : (decide (0 < chkC x) || x.gone) = false := by simpa using hq
      obtain ⟨y, hy⟩ : ∃ y, l[k - 1]? = some y := ⟨_, List.getElem?_eq_getElem (by omega)⟩
      refine d_gv1 rfl rfl rfl hq' (v_move rfl) rfl ?_
      refine d_gv1 rfl rfl rfl hq' (v_gtr rfl rfl) rfl ?_
      refine d_gv1 rfl rfl rfl hq' (v_move rfl) rfl ?_
      refine d_gv rfl rfl rfl (fun hg => v_move rfl) rfl rfl ?_
      refine d_gv rfl rfl rfl (fun hg => v_move rfl) rfl rfl ?_
      refine d_gv rfl rfl rfl (fun hg => v_idxS k Try.underlying50 Try.sizeOf95 rfl rfl rfl hkn hkr) rfl rfl ?_
      refine d_gv rfl rfl rfl (fun hg => v_fieldAdrS (j := k) 0 Try.underlying95 rfl rfl Try.sizeOf9 (by decide) rfl hkr) rfl rfl ?_
      refine d_gv rfl rfl rfl (fun hg => v_loadS (v := Str x.key) Try.isAgg9 rfl (chR_at hx) rfl) rfl rfl ?_
      refine d_gv rfl rfl rfl (fun hg => v_move rfl) rfl rfl ?_
      refine d_gv rfl rfl rfl (fun hg => v_move rfl) rfl rfl ?_
      refine d_gv rfl rfl rfl (fun hg => v_sub rfl rfl (w64 (by simp at hg; omega))) rfl rfl ?_
      refine d_gv rfl rfl rfl (fun hg => v_idxS (k - 1) Try.underlying50 Try.sizeOf95 rfl rfl (by simp at hg; omega) (by omega) (by rw [chR_len]; omega)) rfl rfl ?_
      refine d_gv rfl rfl rfl (fun hg => v_fieldAdrS (j := (k - 1)) 0 Try.underlying95 rfl rfl Try.sizeOf9 (by decide) rfl (by rw [chR_len]; omega)) rfl rfl ?_
      refine d_gv rfl rfl rfl (fun hg => v_loadS (v := Str y.key) Try.isAgg9 rfl (chR_at hy) rfl) rfl rfl ?_
      refine d_gv rfl rfl rfl (fun hg => v_sleq rfl rfl) rfl rfl ?_
      refine d_gv1 rfl rfl rfl hq' (v_and rfl rfl) rfl ?_
      refine d_v rfl (v_or rfl rfl) rfl ?_
      refine d_nil ?_
      refine g_cond rfl (fun h40 => ?_) (fun h40 => ?_)
      · skip
        refine g_seq ?_
        refine g_reg ?_
        refine g_v (v_assign rfl) rfl ?_
        refine g_nil ?_
        exact g_retBool false rfl rfl rfl (fun h => by cases h)
      · rw [hq', Bool.false_or] at h40
        have h40' : k = 0 ∨ ∃ y, l[k - 1]? = some y ∧ kl y.key x.key = true := by
            rcases Nat.eq_zero_or_pos k with h0 | h0
            · exact .inl h0
            · right
              refine ⟨y, hy, ?_⟩
              rw [decide_eq_true (show (0 : Int) < k by omega), Bool.true_and] at h40
              simp only [Bool.or_eq_false_iff, decide_eq_false_iff_not] at h40
              rcases kl_tri y.key x.key with h | h | h
              · exact h
              · exact absurd h.symm h40.2
              · rw [show Op.bytesLess x.key y.key = true from h] at h40; cases h40.1
        refine g_skip ?_
        refine g_blk ?_
        refine g_reg ?_
        refine g_v (v_move rfl) rfl ?_
        refine g_v (v_add rfl rfl (w64 (by omega))) rfl ?_
        refine g_v (v_assign rfl) rfl ?_
        refine g_nil ?_
        exact g_again (k + 1) ⟨by omega, srt_more hst hx h40'⟩ (by omega) [0, 3] rfl rfl
  · simp at h7
    obtain rfl : k = l.length := by omega
    rw [List.take_length] at hst
    refine g_exit rfl ?_
    refine g_seq ?_
    refine g_reg ?_
    refine g_v (v_assign rfl) rfl ?_
    refine g_nil ?_
    exact g_retBool true rfl rfl rfl (fun _ => hst)

end Go.Proofs.Ythdjckbjjfiopaa
