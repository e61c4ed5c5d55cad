/- The walk through the law TopPool. No condition. -/
import Derived.Test.YthdjckbjjfiopacPool
import Derived.Test.YthdjckbjjfiopacLight2
import Derived.Test.YthdjckbjjfiopacTopNum
namespace Go.Proofs.Ythdjckbjjfiopac
open Go.Sl Go.Proofs
set_option linter.unusedVariables false
set_option linter.unusedSimpArgs false
def pz : BkT := pset (fun _ => none) 1 (some ([120], 1))
theorem okB_up {B : BkT} (h : okB B) {n : Int} (hn : 1 ≤ n ∧ n ≤ 40) {d : Bytes} {r : Int} (hr : 0 < r ∧ r < 9223372036854775807) : okB (pset B n (some (d, r))) := ⟨sup_set h.1 (fun _ => hn), fun q x e => by
  unfold pset at e
  split at e
  · injection e with e; subst e; exact hr
  · exact h.2 q x e⟩
theorem okB_none : okB (fun _ => none) := ⟨sup_none 40, fun q x h => by cases h⟩
theorem pz_ok : okB pz := okB_up okB_none (by decide) (by decide)
theorem pz_back : refB pz 1 (-1) = fun _ => none := funext fun q => by
  unfold refB pz pset
  by_cases h : q = 1 <;> simp [h]
theorem okB_put {B : BkT} (h : okB B) (d : Bytes) : okB (putB B d) := by
  unfold putB
  split
  · exact h
  · split
    · exact h
    · rename_i k hk
      have := (free_some hk).1
      exact okB_up h (by omega) (by decide)
theorem put_err {B : BkT} {d : Bytes} (h : (putE B d).2 ≠ 0) : (putE B d).1 = 0 ∧ putB B d = B := by
  unfold putE putB at *
  split
  · exact ⟨rfl, rfl⟩
  · rename_i hd
    rw [if_neg hd] at h
    split
    · rename_i hk; exact ⟨rfl, rfl⟩
    · rename_i k hk; rw [hk] at h; exact absurd rfl h
theorem put_ok {B : BkT} {d : Bytes} (h : (putE B d).2 = 0) : ∃ n : Nat, freeId 40 B = some n ∧ putE B d = ((n : Int), 0) ∧ putB B d = pset B n (some (d, 1)) := by
  unfold putE putB at *
  split at h
  · simp at h
  · rename_i hd
    cases hk : freeId 40 B with
    | none => rw [hk] at h; simp at h
    | some n => exact ⟨n, rfl, by rw [if_neg hd], by rw [if_neg hd]⟩
theorem up_refE (B : BkT) (n : Int) (x : Bk) : refE (pset B n (some x)) n = 0 := by simp [refE, pset]
theorem up_get (B : BkT) (n : Int) (x : Bk) : getP (pset B n (some x)) n = (x.1, 0) := by simp [getP, pset]
theorem up_ref (B : BkT) (n : Int) (d : Bytes) (r m : Int) : refB (pset B n (some (d, r))) n m = pset B n (if r + m = 0 then none else some (d, r + m)) := by
  have : pset B n (some (d, r)) n = some (d, r) := by simp [pset]
  unfold refB
  rw [this]
  exact pset_pset _ _ _ _
theorem pset_none {B : BkT} {n : Int} (h : B n = none) : pset B n none = B := funext fun q => by
  unfold pset
  split
  · rename_i e; rw [e, h]
  · rfl
/-- a block with k + 1 references, of which i are gone -/
def stp (B : BkT) (n : Int) (d : Bytes) (k i : Nat) : BkT := pset B n (if i ≤ k then some (d, 1 + (k : Int) - i) else none)
theorem light_s {l : List ActM} {m : Int} {x : ActM} (h : lightA l m = true) (hx : x ∈ l) : x.s.length ≤ 100 := by
  unfold lightA at h
  simp only [Bool.and_eq_true, List.all_eq_true] at h
  have := h.2 x hx
  unfold lightA1 at this
  simp only [Bool.and_eq_true, decide_eq_true_eq] at this
  exact this.1.1.1

theorem ct_T_TopPool (l : List ActM) (f : Nat → ActZ) (s : Option Addr) (cap : Nat) (data : Bytes) (many : Int) (hl : l.length ≤ 9223372036854775807) (hla : ∀ x ∈ l, x.puts.length ≤ 9223372036854775807 ∧ x.changes.length ≤ 9223372036854775807) (F : List HProp) : Ct Try.prog 4 [sl s l.length cap, Str data, I many] ([acts s l f] ++ F) (R1 (Bo true) (acts s l f :: F)) := by
  show Ct Try.prog 4 [sl s l.length cap, Str data, I many] (acts s l f :: F) _
  refine Ct.of Try.func4 rfl 140 Try.ntmps4 (by simp) fun w0 => ?_
  refine g_seq ?_
  refine g_reg ?_
  refine g_v (v_assign rfl) rfl ?_
  refine g_nil ?_
  refine g_seq ?_
  refine g_reg ?_
  refine g_l (l_call (Pre := []) Try.call14 rfl (ct_pool_New)) rfl ?_
  rintro _ _ ⟨p, rfl, rfl⟩
  refine g_v (v_assign rfl) rfl ?_
  refine g_nil ?_
  refine g_seq ?_
  refine g_reg ?_
  refine g_v (v_move rfl) rfl ?_
  refine g_l (l_call (Pre := [plb p (fun _ => none)]) Try.call15 rfl (ct_pool_Pool_Put p (fun _ => none) [120] okB_none (by decide))) rfl ?_
  rintro _ _ ⟨rfl, rfl⟩
  rw [show putE (fun _ => none) [120] = (1, 0) by decide, show putB (fun _ => none) [120] = pz from rfl]
  refine g_v (v_move rfl) rfl ?_
  refine g_v (v_extract (v := I 1) rfl rfl) rfl ?_
  refine g_v (v_extract (v := errV 0) rfl rfl) rfl ?_
  refine g_v (v_assign rfl) rfl ?_
  refine g_v (v_assign rfl) rfl ?_
  refine g_nil ?_
  refine g_seq ?_
  refine g_seq ?_
  refine g_reg ?_
  refine g_v (v_move rfl) rfl ?_
  refine g_v (v_ineq Try.underlying33 rfl) rfl ?_
  refine g_v (v_move rfl) rfl ?_
  refine g_gv1 rfl rfl (by simp) (v_move rfl) rfl ?_
  refine g_gv1 rfl rfl (by simp) (v_neq rfl rfl) rfl ?_
  refine g_v (v_or rfl rfl) rfl ?_
  refine g_v (v_move rfl) rfl ?_
  refine g_gv1 rfl rfl (by simp) (v_move rfl) rfl ?_
  refine g_gv1 rfl rfl (by simp) (v_move rfl) rfl ?_
  refine g_gl rfl rfl (by simp) (l_call (Pre := [plb p pz]) Try.call16 rfl (ct_pool_Pool_Unref p pz 1 pz_ok)) rfl ?_
  rintro _ _ ⟨rfl, rfl⟩
  rw [show refE pz 1 = 0 by decide, pz_back]
  refine g_gv1 rfl rfl (by simp) (v_ineq Try.underlying33 rfl) rfl ?_
  refine g_v (v_or rfl rfl) rfl ?_
  refine g_v (v_move rfl) rfl ?_
  refine g_gv1 rfl rfl (by simp) (v_move rfl) rfl ?_
  refine g_gl rfl rfl (by simp) (l_call (Pre := [plb p (fun _ => none)]) Try.call17 rfl (ct_pool_Numbers p (fun _ => none))) rfl ?_
  rintro _ _ ⟨s37, c37, rfl, rfl⟩
  rw [show ids 40 (fun _ => (none : Option Bk)) = [] by decide]
  refine g_gv1 rfl rfl (by simp) (v_len Try.underlying45 rfl) rfl ?_
  refine g_gv1 rfl rfl (by simp) (v_neq rfl rfl) rfl ?_
  refine g_v (v_or rfl rfl) rfl ?_
  refine g_nil ?_
  refine g_cond rfl (fun h40 => ?_) (fun h40 => ?_)
  · simp at h40
  · skip
    refine g_skip ?_
    refine g_seq ?_
    refine g_seq ?_
    refine g_reg ?_
    refine g_v (v_move rfl) rfl ?_
    refine g_l (l_call (Pre := [acts s l f]) Try.call18 rfl (ct_L_LightActs l f s cap 60 hl hla)) rfl ?_
    rintro _ _ ⟨rfl, rfl⟩
    refine g_v (v_not rfl) rfl ?_
    refine g_v (v_move rfl) rfl ?_
    refine g_gv rfl rfl (fun hg => v_move rfl) rfl rfl ?_
    refine g_gv rfl rfl (fun hg => v_slen Try.underlying9 rfl) rfl rfl ?_
    refine g_gv rfl rfl (fun hg => v_gtr rfl rfl) rfl rfl ?_
    refine g_v (v_or rfl rfl) rfl ?_
    refine g_nil ?_
    refine g_cond rfl (fun h48 => ?_) (fun h48 => ?_)
    · skip
      refine g_seq ?_
      refine g_reg ?_
      refine g_v (v_assign rfl) rfl ?_
      refine g_nil ?_
      refine g_ret1 rfl rfl ?_
      exact rfl
    · simp at h48
      refine g_skip ?_
      refine g_seq ?_
      refine g_seq ?_
      refine g_reg ?_
      refine g_v (v_assign rfl) rfl ?_
      refine g_nil ?_
      refine g_block ?_
      refine g_loop (α := Nat × BkT) (fun z => z.1 ≤ l.length ∧ okB z.2) (fun z => U [(0, sl s l.length cap), (1, Str data), (2, I many), (7, ptr p 0), (10, I z.1)]) (fun z => plb p z.2 :: acts s l f :: F) (fun z => l.length - z.1) (0, fun _ => none) ⟨by simp, okB_none⟩ [0, 1, 2, 7, 10] rfl rfl ?_
      rintro ⟨i, B⟩ ⟨hi, hB⟩
      simp only [] at hi hB ⊢
      refine g_seq ?_
      refine g_seq ?_
      refine g_reg ?_
      refine g_v (v_move rfl) rfl ?_
      refine g_v (v_move rfl) rfl ?_
      refine g_v (v_len Try.underlying22 rfl) rfl ?_
      refine g_v (v_lss rfl rfl) rfl ?_
      refine g_nil ?_
      refine g_cond rfl (fun h52 => ?_) (fun h52 => ?_)
      · simp at h52
        have hkn : i < l.length := by omega
        obtain ⟨x, hx⟩ : ∃ x, l[i]? = some x := ⟨_, List.getElem?_eq_getElem hkn⟩
        have hkr : i < (actR l f).length := by rw [actR_len]; exact hkn
        have hxs : x.s.length ≤ 1000000 := Nat.le_trans (light_s h48.1 (List.mem_of_getElem? hx)) (by decide)
        refine g_skip ?_
        refine g_seq ?_
        refine g_block ?_
        refine g_reg ?_
        refine g_v (v_move rfl) rfl ?_
        refine g_v (v_move rfl) rfl ?_
        refine g_v (v_move rfl) rfl ?_
        refine g_v (v_idxS i Try.underlying22 Try.sizeOf51 rfl rfl rfl hkn hkr) rfl ?_
        refine g_v (v_fieldAdrS (j := i) 1 Try.underlying51 rfl rfl Try.sizeOf9 (by decide) rfl hkr) rfl ?_
        refine g_v (v_loadS (v := Str x.s) Try.isAgg9 rfl (actR_at hx) rfl) rfl ?_
        refine g_l (l_call (Pre := [plb p B]) Try.call15 rfl (ct_pool_Pool_Put p B x.s hB hxs)) rfl ?_
        rintro _ _ ⟨rfl, rfl⟩
        refine g_v (v_move rfl) rfl ?_
        refine g_v (v_extract (v := I (putE B x.s).1) rfl rfl) rfl ?_
        refine g_v (v_extract (v := errV (putE B x.s).2) rfl rfl) rfl ?_
        refine g_nil ?_
        refine g_blk ?_
        refine g_reg ?_
        refine g_v (v_move rfl) rfl ?_
        refine g_v (v_add rfl rfl (w64 (by omega))) rfl ?_
        refine g_v (v_assign rfl) rfl ?_
        refine g_nil ?_
        exact g_again (i + 1, putB B x.s) ⟨by simp only []; omega, okB_put hB _⟩ (by simp; omega) [0, 1, 2, 7, 10] rfl rfl
      · skip
        refine g_exit rfl ?_
        refine g_seq ?_
        refine g_reg ?_
        refine g_v (v_move rfl) rfl ?_
        refine g_l (l_call (Pre := [plb p (B)]) Try.call17 rfl (ct_pool_Numbers p (B))) rfl ?_
        rintro _ _ ⟨s66, c66, rfl, rfl⟩
        refine g_freeze s66 ?_
        refine g_v (v_assign rfl) rfl ?_
        refine g_nil ?_
        refine g_seq ?_
        refine g_reg ?_
        refine g_v (v_move rfl) rfl ?_
        refine g_v (v_move rfl) rfl ?_
        refine g_l (l_call (Pre := [plb p B]) Try.call15 rfl (ct_pool_Pool_Put p B data hB (by omega))) rfl ?_
        rintro _ _ ⟨rfl, rfl⟩
        refine g_v (v_move rfl) rfl ?_
        refine g_v (v_extract (v := I (putE B data).1) rfl rfl) rfl ?_
        refine g_v (v_extract (v := errV (putE B data).2) rfl rfl) rfl ?_
        refine g_v (v_assign rfl) rfl ?_
        refine g_v (v_assign rfl) rfl ?_
        refine g_nil ?_
        refine g_seq ?_
        refine g_seq ?_
        refine g_reg ?_
        refine g_v (v_move rfl) rfl ?_
        refine g_v (v_ineq Try.underlying33 rfl) rfl ?_
        refine g_nil ?_
        refine g_cond rfl (fun h74 => ?_) (fun h74 => ?_)
        · simp at h74
          have hpe := put_err h74
          rw [hpe.1, hpe.2]
          refine g_seq ?_
          refine g_reg ?_
          refine g_v (v_move rfl) rfl ?_
          refine g_v (v_eql rfl rfl) rfl ?_
          refine g_v (v_move rfl) rfl ?_
          refine g_gv1 rfl rfl (by simp) (v_move rfl) rfl ?_
          refine g_gl rfl rfl (by simp) (l_call (Pre := [plb p (B)]) Try.call17 rfl (ct_pool_Numbers p (B))) rfl ?_
          rintro _ _ ⟨s79, c79, rfl, rfl⟩
          refine g_freeze s79 ?_
          refine g_gv1 rfl rfl (by simp) (v_move rfl) rfl ?_
          refine g_gl rfl rfl (by simp) (l_call (Pre := [roL 1 s79 (intR (ids 40 B)), roL 1 s66 (intR (ids 40 B))]) Try.call19 rfl (ct_R_SameNumbers (ids 40 B) (ids 40 B) s79 s66 c79 c66 (Nat.le_trans (ids_len_le 40 _) (by decide)))) rfl ?_
          rintro _ _ ⟨rfl, rfl⟩
          refine g_v (v_and rfl rfl) rfl ?_
          refine g_v (v_assign rfl) rfl ?_
          refine g_nil ?_
          refine g_ret1 rfl rfl ?_
          show Bo _ = Bo true
          simp
        · simp at h74
          obtain ⟨n, hfr, hp1, hp2⟩ := put_ok h74
          have hfs := free_some hfr
          have hnr : 1 ≤ (n : Int) ∧ (n : Int) ≤ 40 := by omega
          rw [hp1, hp2]
          refine g_skip ?_
          refine g_seq ?_
          refine g_reg ?_
          refine g_v (v_move rfl) rfl ?_
          refine g_v (v_mask 3 rfl (by decide) (by decide)) rfl ?_
          refine g_v (v_assign rfl) rfl ?_
          refine g_nil ?_
          obtain ⟨k, hk⟩ : ∃ k : Nat, many % 2 ^ 3 = (k : Int) := ⟨(many % 2 ^ 3).toNat, by omega⟩
          have hk8 : k < 8 := by omega
          rw [hk, show (1 : Int) = 1 + ((0 : Nat) : Int) by omega]
          refine g_seq ?_
          refine g_seq ?_
          refine g_reg ?_
          refine g_v (v_assign rfl) rfl ?_
          refine g_nil ?_
          refine g_block ?_
          refine g_loop (α := Nat) (fun j => j ≤ k) (fun j => U [(0, sl s l.length cap), (1, Str data), (7, ptr p 0), (8, I n), (11, sl s66 (ids 40 B).length c66), (12, I k), (13, I j)]) (fun j => plb p (pset B n (some (data, 1 + (j : Int)))) :: roL 1 s66 (intR (ids 40 B)) :: acts s l f :: F) (fun j => k - j) 0 (by omega) [0, 1, 7, 8, 11, 12, 13] rfl rfl ?_
          intro j hj
          refine g_seq ?_
          refine g_seq ?_
          refine g_reg ?_
          refine g_v (v_move rfl) rfl ?_
          refine g_v (v_move rfl) rfl ?_
          refine g_v (v_lss rfl rfl) rfl ?_
          refine g_nil ?_
          refine g_cond rfl (fun h87 => ?_) (fun h87 => ?_)
          · simp at h87
            refine g_skip ?_
            refine g_seq ?_
            refine g_block ?_
            refine g_seq ?_
            refine g_reg ?_
            refine g_v (v_move rfl) rfl ?_
            refine g_v (v_move rfl) rfl ?_
            refine g_l (l_call (Pre := [plb p (pset B n (some (data, 1 + (j : Int))))]) Try.call20 rfl (ct_pool_Pool_Ref p (pset B n (some (data, 1 + (j : Int)))) n (okB_up hB hnr (by omega)))) rfl ?_
            rintro _ _ ⟨rfl, rfl⟩
            rw [up_refE, up_ref, if_neg (by omega)]
            refine g_v (v_ineq Try.underlying33 rfl) rfl ?_
            refine g_nil ?_
            refine g_cond rfl (fun h93 => ?_) (fun h93 => ?_)
            · simp at h93
            · skip
              refine g_skip ?_
              refine g_blk ?_
              refine g_reg ?_
              refine g_v (v_move rfl) rfl ?_
              refine g_v (v_add rfl rfl (w64 (by omega))) rfl ?_
              refine g_v (v_assign rfl) rfl ?_
              refine g_nil ?_
              rw [show (1 : Int) + (j : Int) + 1 = 1 + ((j + 1 : Nat) : Int) by omega]
              exact g_again (j + 1) (by omega) (by omega) [0, 1, 7, 8, 11, 12, 13] rfl rfl
          · simp at h87
            obtain rfl : k = j := by omega
            refine g_exit rfl ?_
            refine g_seq ?_
            refine g_seq ?_
            refine g_reg ?_
            refine g_v (v_assign rfl) rfl ?_
            refine g_nil ?_
            rw [show pset B n (some (data, 1 + (k : Int))) = stp B n data k 0 by unfold stp; rw [if_pos (by omega)]; simp]
            refine g_block ?_
            refine g_loop (α := Nat) (fun i => i ≤ k + 1) (fun i => U [(0, sl s l.length cap), (1, Str data), (7, ptr p 0), (8, I n), (11, sl s66 (ids 40 B).length c66), (12, I k), (14, I i)]) (fun i => plb p (stp B n data k i) :: roL 1 s66 (intR (ids 40 B)) :: acts s l f :: F) (fun i => k + 1 - i) 0 (by omega) [0, 1, 7, 8, 11, 12, 14] rfl rfl ?_
            intro i hi
            refine g_seq ?_
            refine g_seq ?_
            refine g_reg ?_
            refine g_v (v_move rfl) rfl ?_
            refine g_v (v_move rfl) rfl ?_
            refine g_v (v_leq rfl rfl) rfl ?_
            refine g_nil ?_
            refine g_cond rfl (fun h96 => ?_) (fun h96 => ?_)
            · simp at h96
              rw [show stp B n data k i = pset B n (some (data, 1 + (k : Int) - i)) by unfold stp; rw [if_pos (by omega)]]
              refine g_skip ?_
              refine g_seq ?_
              refine g_block ?_
              refine g_seq ?_
              refine g_reg ?_
              refine g_v (v_move rfl) rfl ?_
              refine g_v (v_move rfl) rfl ?_
              refine g_l (l_call (Pre := [plb p (pset B n (some (data, 1 + (k : Int) - i)))]) Try.call21 rfl (ct_pool_Pool_Get p (pset B n (some (data, 1 + (k : Int) - i))) n (okB_up hB hnr (by omega)))) rfl ?_
              rintro _ _ ⟨rfl, rfl⟩
              rw [up_get]
              refine g_v (v_move rfl) rfl ?_
              refine g_v (v_extract (v := Str data) rfl rfl) rfl ?_
              refine g_v (v_extract (v := errV 0) rfl rfl) rfl ?_
              refine g_v (v_assign rfl) rfl ?_
              refine g_v (v_assign rfl) rfl ?_
              refine g_nil ?_
              refine g_seq ?_
              refine g_reg ?_
              refine g_v (v_move rfl) rfl ?_
              refine g_v (v_ineq Try.underlying33 rfl) rfl ?_
              refine g_v (v_move rfl) rfl ?_
              refine g_gv1 rfl rfl (by simp) (v_move rfl) rfl ?_
              refine g_gv1 rfl rfl (by simp) (v_move rfl) rfl ?_
              refine g_gv1 rfl rfl (by simp) (v_sneq rfl rfl) rfl ?_
              refine g_v (v_or rfl rfl) rfl ?_
              refine g_v (v_move rfl) rfl ?_
              refine g_gv1 rfl rfl (by simp) (v_move rfl) rfl ?_
              refine g_gv1 rfl rfl (by simp) (v_move rfl) rfl ?_
              refine g_gl rfl rfl (by simp) (l_call (Pre := [plb p (pset B n (some (data, 1 + (k : Int) - i)))]) Try.call16 rfl (ct_pool_Pool_Unref p (pset B n (some (data, 1 + (k : Int) - i))) n (okB_up hB hnr (by omega)))) rfl ?_
              rintro _ _ ⟨rfl, rfl⟩
              rw [up_refE, up_ref]
              refine g_gv1 rfl rfl (by simp) (v_ineq Try.underlying33 rfl) rfl ?_
              refine g_v (v_or rfl rfl) rfl ?_
              refine g_nil ?_
              refine g_cond rfl (fun h117 => ?_) (fun h117 => ?_)
              · simp at h117
              · skip
                refine g_skip ?_
                refine g_blk ?_
                refine g_reg ?_
                refine g_v (v_move rfl) rfl ?_
                refine g_v (v_add rfl rfl (w64 (by omega))) rfl ?_
                refine g_v (v_assign rfl) rfl ?_
                refine g_nil ?_
                rw [show pset B n (if 1 + (k : Int) - i + -1 = 0 then none else some (data, 1 + (k : Int) - i + -1)) = stp B n data k (i + 1) by
                    unfold stp
                    by_cases h : i + 1 ≤ k
                    · rw [if_neg (by omega), if_pos h, show 1 + (k : Int) - i + -1 = 1 + (k : Int) - (i + 1 : Nat) by omega]
                    · rw [if_pos (by omega), if_neg h]]
                exact g_again (i + 1) (by omega) (by omega) [0, 1, 7, 8, 11, 12, 14] rfl rfl
            · simp at h96
              obtain rfl : i = k + 1 := by omega
              rw [show stp B n data k (k + 1) = B by unfold stp; rw [if_neg (by omega)]; exact pset_none hfs.2.1]
              have hge : getP B n = ([], 5) := by unfold getP; rw [hfs.2.1]
              have hre : refE B n = 5 := by unfold refE; rw [hfs.2.1]; rfl
              have hrb : refB B n 1 = B := by unfold refB; rw [hfs.2.1]
              refine g_exit rfl ?_
              refine g_seq ?_
              refine g_reg ?_
              refine g_v (v_move rfl) rfl ?_
              refine g_v (v_move rfl) rfl ?_
              refine g_l (l_call (Pre := [plb p B]) Try.call21 rfl (ct_pool_Pool_Get p B n hB)) rfl ?_
              rintro _ _ ⟨rfl, rfl⟩
              rw [hge]
              refine g_v (v_move rfl) rfl ?_
              refine g_v (v_extract (v := Str []) rfl rfl) rfl ?_
              refine g_v (v_extract (v := errV 5) rfl rfl) rfl ?_
              refine g_v (v_assign rfl) rfl ?_
              refine g_nil ?_
              refine g_seq ?_
              refine g_reg ?_
              refine g_v (v_move rfl) rfl ?_
              refine g_l (l_call (Pre := []) Try.call22 rfl (ct_T_numb 5)) rfl ?_
              rintro _ _ ⟨rfl, rfl⟩
              refine g_v (v_eql rfl rfl) rfl ?_
              refine g_v (v_move rfl) rfl ?_
              refine g_gv1 rfl rfl (by simp) (v_move rfl) rfl ?_
              refine g_gv1 rfl rfl (by simp) (v_move rfl) rfl ?_
              refine g_gl rfl rfl (by simp) (l_call (Pre := [plb p B]) Try.call20 rfl (ct_pool_Pool_Ref p B n hB)) rfl ?_
              rintro _ _ ⟨rfl, rfl⟩
              rw [hre, hrb]
              refine g_gl rfl rfl (by simp) (l_call (Pre := []) Try.call22 rfl (ct_T_numb 5)) rfl ?_
              rintro _ _ ⟨rfl, rfl⟩
              refine g_gv1 rfl rfl (by simp) (v_eql rfl rfl) rfl ?_
              refine g_v (v_and rfl rfl) rfl ?_
              refine g_v (v_move rfl) rfl ?_
              refine g_gv1 rfl rfl (by simp) (v_move rfl) rfl ?_
              refine g_gl rfl rfl (by simp) (l_call (Pre := [plb p (B)]) Try.call17 rfl (ct_pool_Numbers p (B))) rfl ?_
              rintro _ _ ⟨s136, c136, rfl, rfl⟩
              refine g_freeze s136 ?_
              refine g_gv1 rfl rfl (by simp) (v_move rfl) rfl ?_
              refine g_gl rfl rfl (by simp) (l_call (Pre := [roL 1 s136 (intR (ids 40 B)), roL 1 s66 (intR (ids 40 B))]) Try.call19 rfl (ct_R_SameNumbers (ids 40 B) (ids 40 B) s136 s66 c136 c66 (Nat.le_trans (ids_len_le 40 _) (by decide)))) rfl ?_
              rintro _ _ ⟨rfl, rfl⟩
              refine g_v (v_and rfl rfl) rfl ?_
              refine g_v (v_assign rfl) rfl ?_
              refine g_nil ?_
              refine g_ret1 rfl rfl ?_
              show Bo _ = Bo true
              simp

end Go.Proofs.Ythdjckbjjfiopac
