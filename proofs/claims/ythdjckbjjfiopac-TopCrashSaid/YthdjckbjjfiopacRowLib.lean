/- Walks through the functions of Go's library that rows need: comparing, cloning, deleting, finding. No condition. -/
import Derived.Test.YthdjckbjjfiopacRowLaw
import Derived.Test.YthdjckbjjfiopacSlC
import Derived.KernelRfl
namespace Go.Proofs.Ythdjckbjjfiopac
open Go Go.Sl Go.Proofs
set_option linter.unusedVariables false
set_option linter.unusedSimpArgs false
theorem x_cmp : ∃ fn, Try.prog.funcs[131]? = some fn ∧ (fn.name == "runtime.NumGoroutine") = false ∧ fn.body.isNone = true ∧ Extern.findNext fn = none ∧ Extern.find fn = some Extern.BytealgCompare.compare :=
  ⟨(Try.prog.funcs[131]?).get (by kernel_rfl), (Option.some_get _).symm, by kernel_rfl, by kernel_rfl, by kernel_rfl, by kernel_rfl⟩
theorem x_cmp_run (a b : Bytes) (w : World) : (callFunc 131 [Str a, Str b].toArray).run Try.prog w = .ok (.value (I (Lib.compareBytes a b))) w := by
  obtain ⟨fn, h1, h2, h3, h4, h5⟩ := x_cmp
  rw [run_callFunc_extern h1 h2 h3 h4 h5]
  show ((Extern.BytealgCompare.compare #[.string ⟨⟨a⟩⟩, .string ⟨⟨b⟩⟩]).run Try.prog w).andThen _ = _
  rw [Lib.run_compareString]
  rfl
theorem del_rowsC (l : List ChangeM) (i : Nat) : (chR l).take i ++ ((chR l).drop (i + 1)).take (l.length - (i + 1)) = chR (l.eraseIdx i) := by
  rw [List.take_of_length_le (i := l.length - (i + 1)) (l := (chR l).drop (i + 1)) (by simp [chR]), List.eraseIdx_eq_take_drop_succ]
  simp [chR]
theorem chR_ones (l : List ChangeM) : ∀ r ∈ chR l, ones r = true := fun r hr => by simp only [chR, List.mem_map] at hr; obtain ⟨x, _, rfl⟩ := hr; rfl
theorem chR_three (l : List ChangeM) : ∀ r ∈ chR l, r.length = 3 := fun r hr => by simp only [chR, List.mem_map] at hr; obtain ⟨x, _, rfl⟩ := hr; rfl

theorem ct_internal_bytealg_CompareString (a b : Bytes) (F : List HProp) : Ct Try.prog 118 [Str a, Str b] ([] ++ F) (R1 (I (Lib.compareBytes a b)) F) := by
  show Ct Try.prog 118 [Str a, Str b] (F) _
  refine Ct.of Try.func118 rfl 8 Try.ntmps118 (by simp) fun w0 => ?_
  refine g_seq ?_
  refine g_reg ?_
  refine g_v (v_assign rfl) rfl ?_
  refine g_nil ?_
  refine g_seq ?_
  refine g_reg ?_
  refine g_v (v_move rfl) rfl ?_
  refine g_v (v_move rfl) rfl ?_
  refine g_l (l_callX (v := I (Lib.compareBytes a b)) (x_cmp_run a b) rfl) rfl ?_
  rintro _ _ ⟨rfl, rfl⟩
  refine g_v (v_assign rfl) rfl ?_
  refine g_nil ?_
  refine g_ret1 rfl rfl ?_
  exact rfl

theorem ct_strings_Compare (a b : Bytes) (F : List HProp) : Ct Try.prog 95 [Str a, Str b] ([] ++ F) (R1 (I (Lib.compareBytes a b)) F) := by
  show Ct Try.prog 95 [Str a, Str b] (F) _
  refine Ct.of Try.func95 rfl 8 Try.ntmps95 (by simp) fun w0 => ?_
  refine g_seq ?_
  refine g_reg ?_
  refine g_v (v_assign rfl) rfl ?_
  refine g_nil ?_
  refine g_seq ?_
  refine g_reg ?_
  refine g_v (v_move rfl) rfl ?_
  refine g_v (v_move rfl) rfl ?_
  refine g_l (l_call (Pre := []) Try.call118 rfl (ct_internal_bytealg_CompareString a b)) rfl ?_
  rintro _ _ ⟨rfl, rfl⟩
  refine g_v (v_assign rfl) rfl ?_
  refine g_nil ?_
  refine g_ret1 rfl rfl ?_
  exact rfl

theorem ct_row_Apply1 (x : ChangeM) (k : Bytes) (F : List HProp) : Ct Try.prog 94 [.agg (encC x).toArray, Str k] ([] ++ F) (R1 (I (Lib.compareBytes x.key k)) F) := by
  show Ct Try.prog 94 [.agg (encC x).toArray, Str k] (F) _
  refine Ct.of Try.func94 rfl 9 Try.ntmps94 (by simp) fun w0 => ?_
  refine g_seq ?_
  refine g_reg ?_
  refine g_l (l_box (encC x).toArray rfl rfl) rfl ?_
  rintro _ _ ⟨b2, rfl, rfl⟩
  refine g_v (v_assign rfl) rfl ?_
  refine g_nil ?_
  refine g_seq ?_
  refine g_reg ?_
  refine g_v (v_fieldAddr 0 Try.underlying111 rfl rfl Try.sizeOf9 (by decide) rfl) rfl ?_
  refine g_v (v_load (v := Str x.key) Try.isAgg9 rfl rfl) rfl ?_
  refine g_v (v_move rfl) rfl ?_
  refine g_l (l_call (Pre := []) Try.call95 rfl (ct_strings_Compare x.key k)) rfl ?_
  rintro _ _ ⟨rfl, rfl⟩
  refine g_v (v_assign rfl) rfl ?_
  refine g_nil ?_
  refine g_ret1 rfl rfl ?_
  exact rfl

theorem ct_Clone_change (l : List ChangeM) (s : Option Addr) (cap : Nat) (hl : l.length ≤ 1000000) (F : List HProp) : Ct Try.prog 72 [sl s l.length cap] ([roL 3 s (chR l)] ++ F) (RSl 111 3 l.length (chR l) (roL 3 s (chR l) :: F)) := by
  show Ct Try.prog 72 [sl s l.length cap] (roL 3 s (chR l) :: F) _
  refine Ct.of Try.func72 rfl 8 Try.ntmps72 (by simp) fun w0 => ?_
  refine g_fact (φ := s = none → l = []) (fun w hS hs => by
    have h1 := (SlR.ro (sz := 3) (s := s) (rows := chR l) (L := F)).out w0 w hS
    rcases h1 with h | ⟨b, o, ob, h, _⟩
    · simpa [chR] using h
    · rw [hs] at h; cases h) (fun hnil => ?_)
  refine g_seq ?_
  refine g_reg ?_
  refine g_v (v_assign rfl) rfl ?_
  refine g_nil ?_
  refine g_seq ?_
  refine g_seq ?_
  refine g_reg ?_
  refine g_v (v_move rfl) rfl ?_
  refine g_v (v_slEq Try.underlying49 rfl) rfl ?_
  refine g_nil ?_
  refine g_cond rfl (fun h4 => ?_) (fun h4 => ?_)
  · have hs0 : s = none := by simpa using h4
    have hl0 := hnil hs0
    subst hl0
    refine g_nilown 111 3 (chR []) rfl ?_
    refine g_seq ?_
    refine g_reg ?_
    refine g_v (v_assign rfl) rfl ?_
    refine g_nil ?_
    exact g_retSl rfl rfl rfl rfl
  · skip
    refine g_skip ?_
    refine g_seq ?_
    refine g_reg ?_
    refine g_l (l_build0 Try.underlying49 Try.sizeOf111) rfl ?_
    rintro _ _ ⟨b5, rfl, rfl⟩
    refine g_v (v_move rfl) rfl ?_
    refine g_l (l_append Try.underlying49 Try.sizeOf111 Try.zeroValue111 rfl Try.typeInfo111 (by decide) rfl rfl rfl (chR_len l) (chR_three l) (chR_ones l) ⟨by omega, by decide, by decide⟩) rfl ?_
    rintro _ _ ⟨s7, c7, rfl, rfl⟩
    rw [Nat.zero_add]
    simp only [List.nil_append]
    refine g_v (v_assign rfl) rfl ?_
    refine g_nil ?_
    exact g_retSl rfl rfl rfl rfl

theorem ct_Delete_change (l : List ChangeM) (s : Option Addr) (cap i : Nat) (hi : i < l.length) (hl : l.length ≤ 1000000) (F : List HProp) : Ct Try.prog 96 [sl s l.length cap, I i, I ((i : Int) + 1)] ([owL 111 3 s cap (chR l)] ++ F) (R1 (sl s (l.length - 1) cap) (owL 111 3 s cap (chR (l.eraseIdx i)) :: F)) := by
  show Ct Try.prog 96 [sl s l.length cap, I i, I ((i : Int) + 1)] (owL 111 3 s cap (chR l) :: F) _
  refine Ct.of Try.func96 rfl 33 Try.ntmps96 (by simp) fun w0 => ?_
  refine g_cap s fun hcap => ?_
  rw [chR_len] at hcap
  refine g_seq ?_
  refine g_reg ?_
  refine g_v (v_assign rfl) rfl ?_
  refine g_nil ?_
  refine g_seq ?_
  refine g_reg ?_
  refine g_v (v_move rfl) rfl ?_
  refine g_v (v_move rfl) rfl ?_
  refine g_v (v_move rfl) rfl ?_
  refine g_v (v_move rfl) rfl ?_
  refine g_v (v_len Try.underlying49 rfl) rfl ?_
  refine g_v (v_sl3 (l := i) (h := i + 1) (q := l.length) Try.underlying49 Try.sizeOf111 rfl rfl rfl rfl (by omega) rfl rfl (by omega) (by omega) hcap) rfl ?_
  refine g_nil ?_
  refine g_seq ?_
  refine g_seq ?_
  refine g_reg ?_
  refine g_v (v_move rfl) rfl ?_
  refine g_v (v_move rfl) rfl ?_
  refine g_v (v_eql rfl rfl) rfl ?_
  refine g_nil ?_
  refine g_cond rfl (fun h16 => ?_) (fun h16 => ?_)
  · simp at h16
    omega
  · skip
    refine g_skip ?_
    refine g_seq ?_
    refine g_reg ?_
    refine g_v (v_move rfl) rfl ?_
    refine g_v (v_len Try.underlying49 rfl) rfl ?_
    refine g_v (v_assign rfl) rfl ?_
    refine g_nil ?_
    refine g_seq ?_
    refine g_draw (Lf := F) [(0, false), (1, false), (2, false), (3, false), (4, false), (5, false), (6, true), (7, false)] (by kernel_rfl) (by kernel_rfl) rfl (by kernel_rfl) ?_
    refine d_v rfl (v_move rfl) rfl ?_
    refine d_v rfl (v_move rfl) rfl ?_
    refine d_v rfl (v_slHi (h := i) Try.underlying49 Try.sizeOf111 rfl rfl rfl (by omega)) rfl ?_
    refine d_v rfl (v_move rfl) rfl ?_
    refine d_v rfl (v_move rfl) rfl ?_
    refine d_v rfl (v_slLo (l := i + 1) Try.underlying49 Try.sizeOf111 rfl rfl (by omega) (by omega)) rfl ?_
    refine d_l rfl (l_appendOv (s := s) (p := i + 1) Try.underlying49 Try.sizeOf111 (by decide) rfl rfl (by unfold At; split; exact .inr (.inr (by omega)); exact .inr (.inl rfl)) (by rw [chR_len]; omega) (by rw [chR_len]; omega) (by rw [chR_len]; omega) (by rw [chR_len]; omega) (chR_ones l)) rfl ?_
    rintro _ _ ⟨rfl, rfl⟩
    rw [del_rowsC]
    refine d_v rfl (v_assign rfl) rfl ?_
    refine d_nil ?_
    refine g_seq ?_
    refine g_reg ?_
    refine g_v (v_move rfl) rfl ?_
    refine g_v (v_move rfl) rfl ?_
    refine g_v (v_len Try.underlying49 rfl) rfl ?_
    refine g_v (v_move rfl) rfl ?_
    refine g_v (v_slBoth (l := i + (l.length - (i + 1))) (h := l.length) Try.underlying49 Try.sizeOf111 rfl rfl rfl rfl rfl (by omega) hcap) rfl ?_
    refine g_l0 (l_clearTail (sz := 3) (l := i + (l.length - (i + 1))) s Try.underlying49 Try.zeroValue111 rfl rfl rfl (by unfold At; split; exact .inr (.inr (by omega)); exact .inr (.inl rfl)) (by rw [chR_len, List.length_eraseIdx]; split <;> omega) (by omega)) ?_
    rintro _ _ ⟨rfl, rfl⟩
    refine g_nil ?_
    refine g_seq ?_
    refine g_reg ?_
    refine g_v (v_move rfl) rfl ?_
    refine g_v (v_assign rfl) rfl ?_
    refine g_nil ?_
    exact g_ret1 rfl rfl (by rw [show l.length - 1 = i + (l.length - (i + 1)) by omega]; rfl)

theorem ct_BinarySearch_change (l : List ChangeM) (s : Option Addr) (cap : Nat) (k : Bytes) (hs : srt l) (hl : l.length ≤ 1000000) (F : List HProp) : Ct Try.prog 93 [sl s l.length cap, Str k, .func (.func 94) #[] #[]] ([owL 111 3 s cap (chR l)] ++ F) (R1 (.tuple #[I (lbS l k), Bo (isS l k)]) (owL 111 3 s cap (chR l) :: F)) := by
  show Ct Try.prog 93 [sl s l.length cap, Str k, .func (.func 94) #[] #[]] (owL 111 3 s cap (chR l) :: F) _
  refine Ct.of Try.func93 rfl 49 Try.ntmps93 (by simp) fun w0 => ?_
  refine g_seq ?_
  refine g_reg ?_
  refine g_v (v_assign rfl) rfl ?_
  refine g_v (v_assign rfl) rfl ?_
  refine g_nil ?_
  refine g_seq ?_
  refine g_reg ?_
  refine g_v (v_move rfl) rfl ?_
  refine g_v (v_len Try.underlying49 rfl) rfl ?_
  refine g_v (v_assign rfl) rfl ?_
  refine g_nil ?_
  refine g_seq ?_
  refine g_reg ?_
  refine g_v (v_move rfl) rfl ?_
  refine g_v (v_assign rfl) rfl ?_
  refine g_v (v_assign rfl) rfl ?_
  refine g_nil ?_
  refine g_seq ?_
  refine g_block ?_
  refine g_loop (α := Nat × Nat) (fun z => z.1 ≤ lbS l k ∧ lbS l k ≤ z.2 ∧ z.2 ≤ l.length) (fun z => U [(0, sl s l.length cap), (1, Str k), (2, .func (.func 94) #[] #[]), (8, I l.length), (9, I z.1), (10, I z.2)]) (fun _ => owL 111 3 s cap (chR l) :: F) (fun z => z.2 - z.1) (0, l.length) ⟨by simp, lb_le _ _, Nat.le_refl _⟩ [0, 1, 2, 8, 9, 10] rfl rfl ?_
  rintro ⟨i, j⟩ ⟨hi, hj, hjl⟩
  simp only [] at hi hj hjl ⊢
  refine g_seq ?_
  refine g_seq ?_
  refine g_reg ?_
  refine g_v (v_move rfl) rfl ?_
  refine g_v (v_move rfl) rfl ?_
  refine g_v (v_lss rfl rfl) rfl ?_
  refine g_nil ?_
  refine g_cond rfl (fun h17 => ?_) (fun h17 => ?_)
  · simp at h17
    refine g_skip ?_
    refine g_block ?_
    refine g_seq ?_
    have hkn : (i + j) / 2 < l.length := by omega
    obtain ⟨x, hx⟩ : ∃ x, l[(i + j) / 2]? = some x := ⟨_, List.getElem?_eq_getElem hkn⟩
    have hkr : (i + j) / 2 < (chR l).length := by rw [chR_len]; exact hkn
    have hlb := lb_iff hs k hx
    refine g_reg ?_
    refine g_v (v_move rfl) rfl ?_
    refine g_v (v_move rfl) rfl ?_
    refine g_v (v_add rfl rfl (w64 (by omega))) rfl ?_
    refine g_v (v_conv Try.underlying3 Try.underlying146 rfl (wu64 (by omega))) rfl ?_
    refine g_v (v_shr (r := (((i + j) / 2 : Nat) : Int)) rfl rfl (by decide) (by rw [show min ((1 : Int).toNat) IntKind.u64.bits = 1 by decide, Int.fdiv_eq_ediv_of_nonneg _ (by decide)]; omega)) rfl ?_
    refine g_v (v_conv Try.underlying146 Try.underlying3 rfl (w64 (by omega))) rfl ?_
    refine g_v (v_assign rfl) rfl ?_
    refine g_nil ?_
    refine g_seq ?_
    refine g_reg ?_
    refine g_v (v_move rfl) rfl ?_
    refine g_v (v_move rfl) rfl ?_
    refine g_v (v_move rfl) rfl ?_
    refine g_v (v_idxS ((i + j) / 2) Try.underlying49 Try.sizeOf111 rfl rfl rfl hkn hkr) rfl ?_
    refine g_v (v_loadAS (row := encC x) Try.isAgg111 Try.sizeOf111 rfl (chR_at hx) rfl) rfl ?_
    refine g_v (v_move rfl) rfl ?_
    refine g_l (l_callV (fi := []) (cap := []) (Pre := []) Try.call94 rfl rfl (ct_row_Apply1 x k)) rfl ?_
    rintro _ _ ⟨rfl, rfl⟩
    refine g_v (v_lss rfl rfl) rfl ?_
    refine g_nil ?_
    refine g_cond rfl (fun h31 => ?_) (fun h31 => ?_)
    · simp at h31
      refine g_reg ?_
      refine g_v (v_move rfl) rfl ?_
      refine g_v (v_add rfl rfl (w64 (by omega))) rfl ?_
      refine g_v (v_assign rfl) rfl ?_
      refine g_nil ?_
      refine g_blk ?_
      exact g_again ((i + j) / 2 + 1, j) ⟨by simp only []; have := hlb.1 ((cb_lt _ _).1.1 h31); omega, hj, hjl⟩ (by simp only []; omega) [0, 1, 2, 8, 9, 10] rfl rfl
    · simp at h31
      refine g_reg ?_
      refine g_v (v_move rfl) rfl ?_
      refine g_v (v_assign rfl) rfl ?_
      refine g_nil ?_
      refine g_blk ?_
      exact g_again (i, (i + j) / 2) ⟨hi, by simp only []; rcases Nat.lt_or_ge ((i + j) / 2) (lbS l k) with h | h; have := (cb_lt _ _).1.2 (hlb.2 h); omega; exact h, by simp only []; omega⟩ (by simp only []; omega) [0, 1, 2, 8, 9, 10] rfl rfl
  · simp at h17
    obtain rfl : i = lbS l k := by omega
    refine g_exit rfl ?_
    refine g_seq ?_
    refine g_reg ?_
    refine g_v (v_move rfl) rfl ?_
    refine g_v (v_move rfl) rfl ?_
    refine g_v (v_move rfl) rfl ?_
    refine g_v (v_lss rfl rfl) rfl ?_
    refine g_v (v_move rfl) rfl ?_
    by_cases hin : lbS l k < l.length
    · obtain ⟨x, hx⟩ : ∃ x, l[lbS l k]? = some x := ⟨_, List.getElem?_eq_getElem hin⟩
      have hkr : lbS l k < (chR l).length := by rw [chR_len]; exact hin
      have hb : decide ((lbS l k : Int) < l.length) = true := decide_eq_true (by omega)
      refine g_gv1 rfl rfl hb (v_move rfl) rfl ?_
      refine g_gv1 rfl rfl hb (v_move rfl) rfl ?_
      refine g_gv1 rfl rfl hb (v_move rfl) rfl ?_
      refine g_gv1 rfl rfl hb (v_idxS (lbS l k) Try.underlying49 Try.sizeOf111 rfl rfl rfl hin hkr) rfl ?_
      refine g_gv1 rfl rfl hb (v_loadAS (row := encC x) Try.isAgg111 Try.sizeOf111 rfl (chR_at hx) rfl) rfl ?_
      refine g_gv1 rfl rfl hb (v_move rfl) rfl ?_
      refine g_gl rfl rfl hb (l_callV (fi := []) (cap := []) (Pre := []) Try.call94 rfl rfl (ct_row_Apply1 x k)) rfl ?_
      rintro _ _ ⟨rfl, rfl⟩
      refine g_gv1 rfl rfl hb (v_eql rfl rfl) rfl ?_
      refine g_v (v_and rfl rfl) rfl ?_
      refine g_v (v_assign rfl) rfl ?_
      refine g_v (v_assign rfl) rfl ?_
      refine g_nil ?_
      exact g_ret1 rfl rfl (by rw [lb_is hs, hx]; show Value.tuple #[I (lbS l k), Bo (decide ((lbS l k : Int) < l.length) && decide (Lib.compareBytes x.key k = 0))] = _; rw [hb, Bool.true_and, decide_eq_decide.2 (cb_lt x.key k).2])
    · have hb : decide ((lbS l k : Int) < l.length) = false := decide_eq_false (by omega)
      refine g_no rfl rfl (by rw [hb]; rfl) rfl ?_
      refine g_no rfl rfl (by rw [hb]; rfl) rfl ?_
      refine g_no rfl rfl (by rw [hb]; rfl) rfl ?_
      refine g_no rfl rfl (by rw [hb]; rfl) rfl ?_
      refine g_no rfl rfl (by rw [hb]; rfl) rfl ?_
      refine g_no rfl rfl (by rw [hb]; rfl) rfl ?_
      refine g_no rfl rfl (by rw [hb]; rfl) rfl ?_
      refine g_no rfl rfl (by rw [hb]; rfl) rfl ?_
      refine g_v (v_pk2 rfl hb rfl) rfl ?_
      refine g_v (v_assign rfl) rfl ?_
      refine g_v (v_assign rfl) rfl ?_
      refine g_nil ?_
      exact g_ret1 rfl rfl (by rw [lb_is hs, List.getElem?_eq_none (by omega)]; rfl)

end Go.Proofs.Ythdjckbjjfiopac
