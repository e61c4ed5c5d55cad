/- Walks through package log: adding. No condition. -/
import Derived.Test.YthdjckbjjfiopacLg
import Derived.Test.YthdjckbjjfiopacLgW
namespace Go.Proofs.Ythdjckbjjfiopac
open Go.Sl Go.Proofs
set_option linter.unusedVariables false
set_option linter.unusedSimpArgs false

theorem ct_log_lay (bl bd from_ many first used : Nat) (c : List ChangeM) (s : Option Addr) (cap N i : Nat) (D : DiskM) (hok : okW N i D) (hN : N ≤ 1000000 ∧ i ≤ 999000) (hb : many ≤ 1000000 ∧ first ≤ 1000000000000 ∧ from_ ≤ 1000000 ∧ used ≤ many) (hc : ∀ x ∈ c, chkC x = 0) (hlen : c.length ≤ 72 ∧ used + c.length + 1 ≤ many) (F : List HProp) : Ct Try.prog 99 [ptr bl 0, sl s c.length cap] ([pt bl (.cells (lgC bd from_ many first (used)) 154 (0, 0)), dsk 117 135 bd (D), roL 3 s (chR c)] ++ F) (R1 (errV (runS D (layL from_ many first used c)).1) (pt bl (.cells (lgC bd from_ many first (used)) 154 (0, 0)) :: dsk 117 135 bd ((runS D (layL from_ many first used c)).2) :: roL 3 s (chR c) :: F)) := by
  show Ct Try.prog 99 [ptr bl 0, sl s c.length cap] (pt bl (.cells (lgC bd from_ many first (used)) 154 (0, 0)) :: dsk 117 135 bd (D) :: roL 3 s (chR c) :: F) _
  refine Ct.of Try.func99 rfl 85 Try.ntmps99 (by simp) fun w0 => ?_
  refine g_seq ?_
  refine g_reg ?_
  refine g_v (v_assign rfl) rfl ?_
  refine g_nil ?_
  refine g_seq ?_
  refine g_draw (Lf := [pt bl (.cells (lgC bd from_ many first (used)) 154 (0, 0))]) [(0, false), (1, false), (2, false), (3, false), (4, false), (5, false), (6, false), (7, false), (8, false), (9, false)] (by kernel_rfl) (by kernel_rfl) rfl (by kernel_rfl) ?_
  refine d_v rfl (v_move rfl) rfl ?_
  refine d_v rfl (v_nilCheck rfl) rfl ?_
  refine d_v rfl (v_fieldAddr 1 Try.underlying154 rfl rfl Try.sizeOf3 (by decide) rfl) rfl ?_
  refine d_v rfl (v_load (v := I from_) Try.isAgg3 rfl rfl) rfl ?_
  refine d_v rfl (v_move rfl) rfl ?_
  refine d_v rfl (v_nilCheck rfl) rfl ?_
  refine d_v rfl (v_fieldAddr 4 Try.underlying154 rfl rfl Try.sizeOf3 (by decide) rfl) rfl ?_
  refine d_v rfl (v_load (v := I used) Try.isAgg3 rfl rfl) rfl ?_
  refine d_v rfl (v_add (r := ((from_ + used : Nat) : Int)) rfl rfl (by rw [show ((from_ : Nat) : Int) + ((used : Nat) : Int) = ((from_ + used : Nat) : Int) by omega]; exact w64 (by omega))) rfl ?_
  refine d_v rfl (v_assign rfl) rfl ?_
  refine d_nil ?_
  refine g_seq ?_
  refine g_seq ?_
  refine g_reg ?_
  refine g_v (v_move rfl) rfl ?_
  refine g_v (v_len Try.underlying49 rfl) rfl ?_
  refine g_v (v_move rfl) rfl ?_
  refine g_nil ?_
  refine g_block ?_
  refine g_loop (α := Nat × DiskM) (fun z => z.1 ≤ c.length ∧ okW N (i + z.1) z.2 ∧ runS D (layL from_ many first used c) = runS z.2 (layW from_ first used z.1 (c.drop z.1) ++ blkW from_ many used c.length)) (fun z => U [(0, ptr bl 0), (1, sl s c.length cap), (5, I ((from_ + used : Nat) : Int)), (20, sl s c.length cap), (21, I c.length), (22, I z.1)]) (fun z => pt bl (.cells (lgC bd from_ many first (used)) 154 (0, 0)) :: dsk 117 135 bd (z.2) :: roL 3 s (chR c) :: F) (fun z => c.length - z.1) (0, D) ⟨by simp, hok, rfl⟩ [0, 1, 5, 20, 21, 22] rfl rfl ?_
  rintro ⟨k, D'⟩ ⟨hk, ok', hrun⟩
  simp only [] at hk ok' hrun ⊢
  have hfx := ok'.2.2.1
  have hwx : D'.wait.length ≤ 1000000 := by have := ok'.2.2.2.2; omega
  refine g_seq ?_
  refine g_reg ?_
  refine g_v (v_lss rfl rfl) rfl ?_
  refine g_nil ?_
  refine g_seq ?_
  refine g_cond rfl (fun h23 => ?_) (fun h23 => ?_)
  · simp at h23
    have hkn : k < c.length := by omega
    obtain ⟨x, hx⟩ : ∃ x, c[k]? = some x := ⟨_, List.getElem?_eq_getElem hkn⟩
    have hkr : k < (chR c).length := by rw [chR_len]; exact hkn
    have hx0 := hc x (List.mem_of_getElem? hx)
    have hrl := raw_len hx0
    refine g_skip ?_
    refine g_seq ?_
    refine g_block ?_
    refine g_seq ?_
    refine g_reg ?_
    refine g_v (v_move rfl) rfl ?_
    refine g_v (v_idxS k Try.underlying49 Try.sizeOf111 rfl rfl rfl hkn hkr) rfl ?_
    refine g_v (v_loadAS (row := encC x) Try.isAgg111 Try.sizeOf111 rfl (chR_at hx) rfl) rfl ?_
    refine g_l (l_alloc #[Str [], Str [], Bo false] Try.zeroValue111) rfl ?_
    rintro _ _ ⟨b7, rfl, rfl⟩
    refine g_v (v_assign rfl) rfl ?_
    refine g_l0 (l_storeA (cs := #[Str [], Str [], Bo false]) (vs := encC x) (encC x).toArray Try.sizeOf111 rfl rfl rfl rfl (by decide) (splice_all rfl)) ?_
    rintro _ _ rfl
    refine g_nil ?_
    refine g_seq ?_
    refine g_reg ?_
    refine g_v (v_loadA (vs := encC (x)) Try.isAgg111 Try.sizeOf111 rfl rfl arr_ld) rfl ?_
    refine g_l (l_call (Pre := []) Try.call121 rfl (ct_row_Bytes x)) rfl ?_
    rintro _ _ ⟨rfl, rfl⟩
    rw [show bytS x = (rawC x, 0) by unfold bytS; rw [if_pos hx0]]
    refine g_v (v_move rfl) rfl ?_
    refine g_v (v_extract (v := Str (rawC x)) rfl rfl) rfl ?_
    refine g_v (v_extract (v := errV 0) rfl rfl) rfl ?_
    refine g_v (v_assign rfl) rfl ?_
    refine g_v (v_assign rfl) rfl ?_
    refine g_nil ?_
    refine g_seq ?_
    refine g_seq ?_
    refine g_reg ?_
    refine g_v (v_move rfl) rfl ?_
    refine g_v (v_ineq Try.underlying33 rfl) rfl ?_
    refine g_nil ?_
    refine g_cond rfl (fun h33 => ?_) (fun h33 => ?_)
    · simp at h33
    · skip
      refine g_skip ?_
      refine g_seq ?_
      refine g_draw (Lf := [pt bl (.cells (lgC bd from_ many first (used)) 154 (0, 0))]) [(0, false), (1, false), (2, false), (3, false), (4, false), (5, false), (6, false), (7, false), (8, false), (9, false), (10, false), (11, false), (12, false), (13, false), (14, false), (15, false), (16, false), (17, false), (18, false), (19, true), (20, true), (21, false)] (by kernel_rfl) (by kernel_rfl) rfl (by kernel_rfl) ?_
      refine d_v rfl (v_move rfl) rfl ?_
      refine d_v rfl (v_nilCheck rfl) rfl ?_
      refine d_v rfl (v_fieldAddr 0 Try.underlying154 rfl rfl Try.sizeOf69 (by decide) rfl) rfl ?_
      refine d_v rfl (v_load (v := ptr bd 0) Try.isAgg69 rfl rfl) rfl ?_
      refine d_v rfl (v_move rfl) rfl ?_
      refine d_v rfl (v_move rfl) rfl ?_
      refine d_v rfl (v_add (r := ((from_ + used + k : Nat) : Int)) rfl rfl (by rw [show ((from_ + used : Nat) : Int) + ((k : Nat) : Int) = ((from_ + used + k : Nat) : Int) by omega]; exact w64 (by omega))) rfl ?_
      refine d_v rfl (v_move rfl) rfl ?_
      refine d_v rfl (v_nilCheck rfl) rfl ?_
      refine d_v rfl (v_fieldAddr 3 Try.underlying154 rfl rfl Try.sizeOf3 (by decide) rfl) rfl ?_
      refine d_v rfl (v_load (v := I first) Try.isAgg3 rfl rfl) rfl ?_
      refine d_v rfl (v_move rfl) rfl ?_
      refine d_v rfl (v_nilCheck rfl) rfl ?_
      refine d_v rfl (v_fieldAddr 4 Try.underlying154 rfl rfl Try.sizeOf3 (by decide) rfl) rfl ?_
      refine d_v rfl (v_load (v := I used) Try.isAgg3 rfl rfl) rfl ?_
      refine d_v rfl (v_add (r := ((first + used : Nat) : Int)) rfl rfl (by rw [show ((first : Nat) : Int) + ((used : Nat) : Int) = ((first + used : Nat) : Int) by omega]; exact w64 (by omega))) rfl ?_
      refine d_v rfl (v_move rfl) rfl ?_
      refine d_v rfl (v_add (r := ((first + used + k : Nat) : Int)) rfl rfl (by rw [show ((first + used : Nat) : Int) + ((k : Nat) : Int) = ((first + used + k : Nat) : Int) by omega]; exact w64 (by omega))) rfl ?_
      refine d_v rfl (v_move rfl) rfl ?_
      refine d_l rfl (l_call (Pre := []) Try.call101 rfl (ct_log_text 111 (first + used + k) (rawC x) (by omega))) rfl ?_
      rintro _ _ ⟨rfl, rfl⟩
      refine d_l rfl (l_call (Pre := [dsk 117 135 bd (D')]) Try.call59 rfl (ct_disk_Write bd D' ((from_ + used + k : Nat) : Int) (textB 111 (first + used + k) (rawC x)) hfx hwx)) rfl ?_
      rintro _ _ ⟨rfl, rfl⟩
      refine d_v rfl (v_assign rfl) rfl ?_
      refine d_nil ?_
      refine g_seq ?_
      refine g_reg ?_
      refine g_v (v_move rfl) rfl ?_
      refine g_v (v_ineq Try.underlying33 rfl) rfl ?_
      refine g_nil ?_
      refine g_cond rfl (fun h57 => ?_) (fun h57 => ?_)
      · simp at h57
        refine g_seq ?_
        refine g_reg ?_
        refine g_v (v_move rfl) rfl ?_
        refine g_v (v_assign rfl) rfl ?_
        refine g_nil ?_
        rw [hrun, layW_drop hx, List.cons_append, run_badW h57]
        dsimp only
        exact g_ret1 rfl rfl rfl
      · simp at h57
        refine g_skip ?_
        refine g_blk ?_
        refine g_reg ?_
        refine g_v (v_add rfl rfl (w64 (by omega))) rfl ?_
        refine g_v (v_move rfl) rfl ?_
        refine g_nil ?_
        refine g_again (k + 1, writeD D' ((from_ + used + k : Nat) : Int) (textB 111 (first + used + k) (rawC x))) ⟨by simp; omega, ?_, ?_⟩ (by simp; omega) [0, 1, 5, 20, 21, 22] rfl rfl
        · exact okW_write ok' _ _
        · simp only []
          rw [hrun, layW_drop hx, List.cons_append, run_ok (show stE D' (some (from_ + used + k, textB 111 (first + used + k) (rawC x))) = 0 from h57)]
          rfl
  · simp at h23
    obtain rfl : k = c.length := by omega
    rw [List.drop_length, show layW from_ first used c.length [] = [] from rfl, List.nil_append] at hrun
    refine g_exit rfl ?_
    refine g_seq ?_
    refine g_seq ?_
    refine g_reg ?_
    refine g_v (v_move rfl) rfl ?_
    refine g_v (v_nilCheck rfl) rfl ?_
    refine g_v (v_fieldAddr 4 Try.underlying154 rfl rfl Try.sizeOf3 (by decide) rfl) rfl ?_
    refine g_v (v_load (v := I used) Try.isAgg3 rfl rfl) rfl ?_
    refine g_v (v_move rfl) rfl ?_
    refine g_v (v_len Try.underlying49 rfl) rfl ?_
    refine g_v (v_add (r := ((used + c.length : Nat) : Int)) rfl rfl (by rw [show ((used : Nat) : Int) + ((c.length : Nat) : Int) = ((used + c.length : Nat) : Int) by omega]; exact w64 (by omega))) rfl ?_
    refine g_v (v_add (r := ((used + c.length + 1 : Nat) : Int)) rfl rfl (by rw [show ((used + c.length : Nat) : Int) + 1 = ((used + c.length + 1 : Nat) : Int) by omega]; exact w64 (by omega))) rfl ?_
    refine g_v (v_assign rfl) rfl ?_
    refine g_nil ?_
    refine g_seq ?_
    refine g_reg ?_
    refine g_v (v_move rfl) rfl ?_
    refine g_v (v_move rfl) rfl ?_
    refine g_v (v_nilCheck rfl) rfl ?_
    refine g_v (v_fieldAddr 2 Try.underlying154 rfl rfl Try.sizeOf3 (by decide) rfl) rfl ?_
    refine g_v (v_load (v := I many) Try.isAgg3 rfl rfl) rfl ?_
    refine g_v (v_lss rfl rfl) rfl ?_
    refine g_nil ?_
    refine g_cond rfl (fun h73 => ?_) (fun h73 => ?_)
    · simp at h73
      refine g_seq ?_
      refine g_draw (Lf := [pt bl (.cells (lgC bd from_ many first (used)) 154 (0, 0))]) [(0, false), (1, false), (2, false), (3, false), (4, false), (5, false), (6, false), (7, false), (8, false), (9, false), (10, true), (11, false)] (by kernel_rfl) (by kernel_rfl) rfl (by kernel_rfl) ?_
      refine d_v rfl (v_move rfl) rfl ?_
      refine d_v rfl (v_nilCheck rfl) rfl ?_
      refine d_v rfl (v_fieldAddr 0 Try.underlying154 rfl rfl Try.sizeOf69 (by decide) rfl) rfl ?_
      refine d_v rfl (v_load (v := ptr bd 0) Try.isAgg69 rfl rfl) rfl ?_
      refine d_v rfl (v_move rfl) rfl ?_
      refine d_v rfl (v_nilCheck rfl) rfl ?_
      refine d_v rfl (v_fieldAddr 1 Try.underlying154 rfl rfl Try.sizeOf3 (by decide) rfl) rfl ?_
      refine d_v rfl (v_load (v := I from_) Try.isAgg3 rfl rfl) rfl ?_
      refine d_v rfl (v_move rfl) rfl ?_
      refine d_v rfl (v_add (r := ((from_ + (used + c.length + 1) : Nat) : Int)) rfl rfl (by rw [show ((from_ : Nat) : Int) + ((used + c.length + 1 : Nat) : Int) = ((from_ + (used + c.length + 1) : Nat) : Int) by omega]; exact w64 (by omega))) rfl ?_
      refine d_l rfl (l_call (Pre := [dsk 117 135 bd (D')]) Try.call59 rfl (ct_disk_Write bd D' ((from_ + (used + c.length + 1) : Nat) : Int) [] hfx hwx)) rfl ?_
      rintro _ _ ⟨rfl, rfl⟩
      refine d_v rfl (v_assign rfl) rfl ?_
      refine d_nil ?_
      rw [hrun, show blkW from_ many used c.length = [some (from_ + (used + c.length + 1), [])] by unfold blkW; rw [if_pos (by omega)]]
      by_cases h0 : writeE D' ((from_ + (used + c.length + 1) : Nat) : Int) [] = 0
      · rw [run_okW h0, run_nil]
        dsimp only
        exact g_ret1 rfl rfl (congrArg errV h0)
      · rw [run_badW h0]
        dsimp only
        exact g_ret1 rfl rfl rfl
    · simp at h73
      refine g_skip ?_
      refine g_seq ?_
      refine g_reg ?_
      refine g_v (v_assign rfl) rfl ?_
      refine g_nil ?_
      rw [hrun, show blkW from_ many used c.length = [] by unfold blkW; rw [if_neg (by omega)], run_nil]
      dsimp only
      exact g_ret1 rfl rfl rfl

theorem ct_log_Add1 (b2 b3 : Nat) (bl bd from_ many first used : Nat) (c : List ChangeM) (s : Option Addr) (cap N i : Nat) (D : DiskM) (hok : okW N i D) (hN : N ≤ 1000000 ∧ i ≤ 999000) (hb : many ≤ 1000000 ∧ first ≤ 1000000000000 ∧ from_ ≤ 1000000 ∧ used ≤ many) (hc : ∀ x ∈ c, chkC x = 0) (hlen : c.length ≤ 72 ∧ used + c.length + 1 ≤ many) (F : List HProp) : Ct Try.prog 98 [ptr b2 0, ptr b3 0] ([pt b2 (.cells #[ptr bl 0] 121 (0, 0)), pt b3 (.cells #[sl s c.length cap] 49 (0, 0)), pt bl (.cells (lgC bd from_ many first (used)) 154 (0, 0)), dsk 117 135 bd (D), roL 3 s (chR c)] ++ F) (R1 (errV (runS D (layL from_ many first used c)).1) (pt b2 (.cells #[ptr bl 0] 121 (0, 0)) :: pt b3 (.cells #[sl s c.length cap] 49 (0, 0)) :: pt bl (.cells (lgC bd from_ many first (used)) 154 (0, 0)) :: dsk 117 135 bd ((runS D (layL from_ many first used c)).2) :: roL 3 s (chR c) :: F)) := by
  show Ct Try.prog 98 [ptr b2 0, ptr b3 0] (pt b2 (.cells #[ptr bl 0] 121 (0, 0)) :: pt b3 (.cells #[sl s c.length cap] 49 (0, 0)) :: pt bl (.cells (lgC bd from_ many first (used)) 154 (0, 0)) :: dsk 117 135 bd (D) :: roL 3 s (chR c) :: F) _
  refine Ct.of Try.func98 rfl 6 Try.ntmps98 (by simp) fun w0 => ?_
  refine g_seq ?_
  refine g_reg ?_
  refine g_v (v_assign rfl) rfl ?_
  refine g_nil ?_
  refine g_seq ?_
  refine g_reg ?_
  refine g_v (v_load (v := ptr bl 0) Try.isAgg121 rfl rfl) rfl ?_
  refine g_v (v_load (v := sl s c.length cap) Try.isAgg49 rfl rfl) rfl ?_
  refine g_l (l_call (Pre := [pt bl (.cells (lgC bd from_ many first (used)) 154 (0, 0)), dsk 117 135 bd (D), roL 3 s (chR c)]) Try.call99 rfl (ct_log_lay bl bd from_ many first used c s cap N i D hok hN hb hc hlen)) rfl ?_
  rintro _ _ ⟨rfl, rfl⟩
  refine g_v (v_assign rfl) rfl ?_
  refine g_nil ?_
  refine g_ret1 rfl rfl ?_
  exact rfl

theorem ct_log_Add2 (b2 b8 b3 : Nat) (bl bd from_ many first used : Nat) (c : List ChangeM) (s : Option Addr) (cap N i : Nat) (D : DiskM) (hok : okW N i D) (hN : N ≤ 1000000 ∧ i ≤ 999000) (hb : many ≤ 1000000 ∧ first ≤ 1000000000000 ∧ from_ ≤ 1000000 ∧ used ≤ many) (hlen : c.length ≤ 72) (F : List HProp) : Ct Try.prog 100 [ptr b2 0, ptr b8 0, ptr b3 0] ([pt b2 (.cells #[ptr bl 0] 121 (0, 0)), pt b8 (.cells #[I ((used + c.length : Nat) : Int)] 3 (0, 0)), pt b3 (.cells #[sl s c.length cap] 49 (0, 0)), pt bl (.cells (lgC bd from_ many first (used)) 154 (0, 0)), dsk 117 135 bd (D), roL 3 s (chR c)] ++ F) (R1 (errV (stE D (endW from_ first used c.length))) (pt b2 (.cells #[ptr bl 0] 121 (0, 0)) :: pt b8 (.cells #[I ((used + c.length : Nat) : Int)] 3 (0, 0)) :: pt b3 (.cells #[sl s c.length cap] 49 (0, 0)) :: pt bl (.cells (lgC bd from_ many first (used)) 154 (0, 0)) :: dsk 117 135 bd (stD D (endW from_ first used c.length)) :: roL 3 s (chR c) :: F)) := by
  show Ct Try.prog 100 [ptr b2 0, ptr b8 0, ptr b3 0] (pt b2 (.cells #[ptr bl 0] 121 (0, 0)) :: pt b8 (.cells #[I ((used + c.length : Nat) : Int)] 3 (0, 0)) :: pt b3 (.cells #[sl s c.length cap] 49 (0, 0)) :: pt bl (.cells (lgC bd from_ many first (used)) 154 (0, 0)) :: dsk 117 135 bd (D) :: roL 3 s (chR c) :: F) _
  refine Ct.of Try.func100 rfl 25 Try.ntmps100 (by simp) fun w0 => ?_
  refine g_seq ?_
  refine g_reg ?_
  refine g_v (v_assign rfl) rfl ?_
  refine g_nil ?_
  refine g_seq ?_
  refine g_draw (Lf := [pt b2 (.cells #[ptr bl 0] 121 (0, 0)), pt b8 (.cells #[I ((used + c.length : Nat) : Int)] 3 (0, 0)), pt b3 (.cells #[sl s c.length cap] 49 (0, 0)), pt bl (.cells (lgC bd from_ many first (used)) 154 (0, 0))]) [(0, false), (1, false), (2, false), (3, false), (4, false), (5, false), (6, false), (7, false), (8, false), (9, false), (10, false), (11, false), (12, false), (13, false), (14, false), (15, false), (16, false), (17, false), (18, true), (19, true), (20, true), (21, false)] (by kernel_rfl) (by kernel_rfl) rfl (by kernel_rfl) ?_
  refine d_v rfl (v_load (v := ptr bl 0) Try.isAgg121 rfl rfl) rfl ?_
  refine d_v rfl (v_nilCheck rfl) rfl ?_
  refine d_v rfl (v_fieldAddr 0 Try.underlying154 rfl rfl Try.sizeOf69 (by decide) rfl) rfl ?_
  refine d_v rfl (v_load (v := ptr bd 0) Try.isAgg69 rfl rfl) rfl ?_
  refine d_v rfl (v_load (v := ptr bl 0) Try.isAgg121 rfl rfl) rfl ?_
  refine d_v rfl (v_nilCheck rfl) rfl ?_
  refine d_v rfl (v_fieldAddr 1 Try.underlying154 rfl rfl Try.sizeOf3 (by decide) rfl) rfl ?_
  refine d_v rfl (v_load (v := I from_) Try.isAgg3 rfl rfl) rfl ?_
  refine d_v rfl (v_load (v := I ((used + c.length : Nat) : Int)) Try.isAgg3 rfl rfl) rfl ?_
  refine d_v rfl (v_add (r := ((from_ + (used + c.length) : Nat) : Int)) rfl rfl (by rw [show ((from_ : Nat) : Int) + ((used + c.length : Nat) : Int) = ((from_ + (used + c.length) : Nat) : Int) by omega]; exact w64 (by omega))) rfl ?_
  refine d_v rfl (v_load (v := ptr bl 0) Try.isAgg121 rfl rfl) rfl ?_
  refine d_v rfl (v_nilCheck rfl) rfl ?_
  refine d_v rfl (v_fieldAddr 3 Try.underlying154 rfl rfl Try.sizeOf3 (by decide) rfl) rfl ?_
  refine d_v rfl (v_load (v := I first) Try.isAgg3 rfl rfl) rfl ?_
  refine d_v rfl (v_load (v := I ((used + c.length : Nat) : Int)) Try.isAgg3 rfl rfl) rfl ?_
  refine d_v rfl (v_add (r := ((first + (used + c.length) : Nat) : Int)) rfl rfl (by rw [show ((first : Nat) : Int) + ((used + c.length : Nat) : Int) = ((first + (used + c.length) : Nat) : Int) by omega]; exact w64 (by omega))) rfl ?_
  refine d_v rfl (v_load (v := sl s c.length cap) Try.isAgg49 rfl rfl) rfl ?_
  refine d_v rfl (v_len Try.underlying49 rfl) rfl ?_
  refine d_l rfl (l_call (Pre := []) Try.call91 rfl (ct_log_four c.length)) rfl ?_
  rintro _ _ ⟨rfl, rfl⟩
  refine d_l rfl (l_call (Pre := []) Try.call101 rfl (ct_log_text 99 (first + (used + c.length)) (fourN c.length) (by simp [fourN]))) rfl ?_
  rintro _ _ ⟨rfl, rfl⟩
  refine d_l rfl (l_call (Pre := [dsk 117 135 bd (D)]) Try.call59 rfl (ct_disk_Write bd D ((from_ + (used + c.length) : Nat) : Int) (textB 99 (first + (used + c.length)) (fourN c.length)) hok.2.2.1 (by have := hok.2.2.2.2; omega))) rfl ?_
  rintro _ _ ⟨rfl, rfl⟩
  refine d_v rfl (v_assign rfl) rfl ?_
  refine d_nil ?_
  show G _ _ _ (dsk 117 135 bd (stD D (endW from_ first used c.length)) :: _)
  exact g_ret1 rfl rfl rfl

theorem ct_log_Add (bl bd from_ many first used : Nat) (c : List ChangeM) (s : Option Addr) (cap N i : Nat) (D : DiskM) (hok : okW N i D) (hN : N ≤ 1000000 ∧ i ≤ 998000) (hb : many ≤ 1000000 ∧ first ≤ 1000000000000 ∧ from_ ≤ 1000000 ∧ used ≤ many) (hl : c.length ≤ 9223372036854775807) (F : List HProp) : Ct Try.prog 67 [ptr bl 0, sl s c.length cap] ([pt bl (.cells (lgC bd from_ many first (used)) 154 (0, 0)), dsk 117 135 bd (D), roL 3 s (chR c)] ++ F) (R1 (errV (addE from_ many first used c D)) (pt bl (.cells (lgC bd from_ many first (addU from_ many first used c D)) 154 (0, 0)) :: dsk 117 135 bd (addD from_ many first used c D) :: roL 3 s (chR c) :: F)) := by
  show Ct Try.prog 67 [ptr bl 0, sl s c.length cap] (pt bl (.cells (lgC bd from_ many first (used)) 154 (0, 0)) :: dsk 117 135 bd (D) :: roL 3 s (chR c) :: F) _
  refine Ct.of Try.func67 rfl 71 Try.ntmps67 (by simp) fun w0 => ?_
  refine g_seq ?_
  refine g_reg ?_
  refine g_l (l_box #[ptr bl 0] rfl rfl) rfl ?_
  rintro _ _ ⟨b2, rfl, rfl⟩
  refine g_l (l_box #[sl s c.length cap] rfl rfl) rfl ?_
  rintro _ _ ⟨b3, rfl, rfl⟩
  refine g_v (v_assign rfl) rfl ?_
  refine g_nil ?_
  refine g_seq ?_
  refine g_seq ?_
  refine g_reg ?_
  refine g_v (v_load (v := sl s c.length cap) Try.isAgg49 rfl rfl) rfl ?_
  refine g_v (v_len Try.underlying49 rfl) rfl ?_
  refine g_v (v_gtr rfl rfl) rfl ?_
  refine g_nil ?_
  refine g_cond rfl (fun h14 => ?_) (fun h14 => ?_)
  · simp at h14
    have hv : addV many used c = 2 := by unfold addV; rw [if_pos (by omega)]
    refine g_seq ?_
    refine g_reg ?_
    refine g_v (v_iface Try.underlying94 rfl rfl) rfl ?_
    refine g_v (v_assign rfl) rfl ?_
    refine g_nil ?_
    obtain ⟨ae, ad, au⟩ := add_badV (from_ := from_) (first := first) (D := D) hv (by decide)
    rw [ae, ad, au]
    exact g_ret1 rfl rfl rfl
  · simp at h14
    have hlen : c.length ≤ 72 := by omega
    refine g_skip ?_
    refine g_seq ?_
    refine g_seq ?_
    refine g_draw (Lf := [pt b2 (.cells #[ptr bl 0] 121 (0, 0)), pt b3 (.cells #[sl s c.length cap] 49 (0, 0))]) [(0, false), (1, false), (2, false), (3, false), (4, true), (5, false)] (by kernel_rfl) (by kernel_rfl) rfl (by kernel_rfl) ?_
    refine d_v rfl (v_load (v := sl s c.length cap) Try.isAgg49 rfl rfl) rfl ?_
    refine d_v rfl (v_len Try.underlying49 rfl) rfl ?_
    refine d_v rfl (v_add (r := ((c.length + 1 : Nat) : Int)) rfl rfl (by rw [show (c.length : Int) + 1 = ((c.length + 1 : Nat) : Int) by omega]; exact w64 (by omega))) rfl ?_
    refine d_v rfl (v_load (v := ptr bl 0) Try.isAgg121 rfl rfl) rfl ?_
    refine d_l rfl (l_call (Pre := [pt bl (.cells (lgC bd from_ many first (used)) 154 (0, 0))]) Try.call66 rfl (ct_log_Room bl bd from_ many first used ⟨hb.2.2.2, hb.1⟩)) rfl ?_
    rintro _ _ ⟨rfl, rfl⟩
    refine d_v rfl (v_gtr rfl rfl) rfl ?_
    refine d_nil ?_
    refine g_cond rfl (fun h21 => ?_) (fun h21 => ?_)
    · simp at h21
      have hv : addV many used c = 8 := by unfold addV; rw [if_neg (by omega), if_pos (by omega)]
      refine g_seq ?_
      refine g_reg ?_
      refine g_v (v_iface Try.underlying94 rfl rfl) rfl ?_
      refine g_v (v_assign rfl) rfl ?_
      refine g_nil ?_
      obtain ⟨ae, ad, au⟩ := add_badV (from_ := from_) (first := first) (D := D) hv (by decide)
      rw [ae, ad, au]
      exact g_ret1 rfl rfl rfl
    · simp at h21
      have hroom : c.length + 1 ≤ many - used := by omega
      have hv0 := addV_of hlen hroom
      refine g_skip ?_
      refine g_seq ?_
      refine g_seq ?_
      refine g_reg ?_
      refine g_v (v_load (v := sl s c.length cap) Try.isAgg49 rfl rfl) rfl ?_
      refine g_v (v_len Try.underlying49 rfl) rfl ?_
      refine g_v (v_move rfl) rfl ?_
      refine g_nil ?_
      refine g_block ?_
      refine g_loop (α := Nat) (fun k => k ≤ c.length ∧ fltC c = fltC (c.drop k)) (fun k => U [(2, ptr b2 0), (3, ptr b3 0), (23, sl s c.length cap), (24, I c.length), (25, I k)]) (fun k => pt b2 (.cells #[ptr bl 0] 121 (0, 0)) :: pt b3 (.cells #[sl s c.length cap] 49 (0, 0)) :: pt bl (.cells (lgC bd from_ many first (used)) 154 (0, 0)) :: dsk 117 135 bd (D) :: roL 3 s (chR c) :: F) (fun k => c.length - k) 0 ⟨by simp, rfl⟩ [2, 3, 23, 24, 25] rfl rfl ?_
      rintro k ⟨hk, hflt⟩
      refine g_seq ?_
      refine g_reg ?_
      refine g_v (v_lss rfl rfl) rfl ?_
      refine g_nil ?_
      refine g_seq ?_
      refine g_cond rfl (fun h26 => ?_) (fun h26 => ?_)
      · simp at h26
        have hkn : k < c.length := by omega
        obtain ⟨x, hx⟩ : ∃ x, c[k]? = some x := ⟨_, List.getElem?_eq_getElem hkn⟩
        have hkr : k < (chR c).length := by rw [chR_len]; exact hkn
        refine g_skip ?_
        refine g_seq ?_
        refine g_block ?_
        refine g_seq ?_
        refine g_reg ?_
        refine g_v (v_idxS k Try.underlying49 Try.sizeOf111 rfl rfl rfl hkn hkr) rfl ?_
        refine g_v (v_loadAS (row := encC x) Try.isAgg111 Try.sizeOf111 rfl (chR_at hx) rfl) rfl ?_
        refine g_l (l_alloc #[Str [], Str [], Bo false] Try.zeroValue111) rfl ?_
        rintro _ _ ⟨b6, rfl, rfl⟩
        refine g_l0 (l_storeA (cs := #[Str [], Str [], Bo false]) (vs := encC x) (encC x).toArray Try.sizeOf111 rfl rfl rfl rfl (by decide) (splice_all rfl)) ?_
        rintro _ _ rfl
        refine g_nil ?_
        refine g_seq ?_
        refine g_reg ?_
        refine g_v (v_loadA (vs := encC (x)) Try.isAgg111 Try.sizeOf111 rfl rfl arr_ld) rfl ?_
        refine g_l (l_call (Pre := []) Try.call64 rfl (ct_row_Check x)) rfl ?_
        rintro _ _ ⟨rfl, rfl⟩
        refine g_v (v_assign rfl) rfl ?_
        refine g_nil ?_
        refine g_seq ?_
        refine g_reg ?_
        refine g_v (v_move rfl) rfl ?_
        refine g_v (v_ineq Try.underlying33 rfl) rfl ?_
        refine g_nil ?_
        refine g_cond rfl (fun h32 => ?_) (fun h32 => ?_)
        · simp at h32
          rw [flt_drop hx, if_neg h32] at hflt
          rw [hflt] at hv0
          refine g_seq ?_
          refine g_reg ?_
          refine g_v (v_move rfl) rfl ?_
          refine g_v (v_assign rfl) rfl ?_
          refine g_nil ?_
          obtain ⟨ae, ad, au⟩ := add_badV (from_ := from_) (first := first) (D := D) hv0 h32
          rw [ae, ad, au]
          exact g_ret1 rfl rfl rfl
        · simp at h32
          refine g_skip ?_
          refine g_blk ?_
          refine g_reg ?_
          refine g_v (v_add rfl rfl (w64 (by omega))) rfl ?_
          refine g_v (v_move rfl) rfl ?_
          refine g_nil ?_
          exact g_again (k + 1) ⟨by omega, by rw [hflt, flt_drop hx, if_pos h32]⟩ (by omega) [2, 3, 23, 24, 25] rfl rfl
      · simp at h26
        obtain rfl : k = c.length := by omega
        rw [List.drop_length, show fltC [] = 0 from rfl] at hflt
        rw [hflt] at hv0
        have hc := flt_all hflt
        refine g_exit rfl ?_
        refine g_seq ?_
        refine g_drawZ (Lf := [pt b2 (.cells #[ptr bl 0] 121 (0, 0)), pt b3 (.cells #[sl s c.length cap] 49 (0, 0)), pt bl (.cells (lgC bd from_ many first (used)) 154 (0, 0))]) [(0, false), (1, false), (2, false), (3, false), (4, false), (5, false), (6, false), (7, true)] 8 rfl (by kernel_rfl) (by kernel_rfl) rfl (by kernel_rfl) (by kernel_rfl) ?_
        refine d_v rfl (v_load (v := ptr bl 0) Try.isAgg121 rfl rfl) rfl ?_
        refine d_v rfl (v_nilCheck rfl) rfl ?_
        refine d_v rfl (v_fieldAddr 4 Try.underlying154 rfl rfl Try.sizeOf3 (by decide) rfl) rfl ?_
        refine d_v rfl (v_load (v := I used) Try.isAgg3 rfl rfl) rfl ?_
        refine d_v rfl (v_load (v := sl s c.length cap) Try.isAgg49 rfl rfl) rfl ?_
        refine d_v rfl (v_len Try.underlying49 rfl) rfl ?_
        refine d_v rfl (v_add (r := ((used + c.length : Nat) : Int)) rfl rfl (by rw [show ((used : Nat) : Int) + ((c.length : Nat) : Int) = ((used + c.length : Nat) : Int) by omega]; exact w64 (by omega))) rfl ?_
        refine d_l rfl (l_alloc1 (I 0) Try.zeroValue3 rfl) rfl ?_
        rintro _ _ ⟨b8, rfl, rfl⟩
        refine d_nil ?_
        refine g_l0 (l_store #[I ((used + c.length : Nat) : Int)] Try.sizeOf3 rfl rfl rfl (by simp) rfl) ?_
        rintro _ _ rfl
        refine g_nil ?_
        refine g_seq ?_
        refine g_seq ?_
        refine g_draw (Lf := [pt b2 (.cells #[ptr bl 0] 121 (0, 0)), pt b3 (.cells #[sl s c.length cap] 49 (0, 0)), pt bl (.cells (lgC bd from_ many first (used)) 154 (0, 0))]) [(0, false), (1, false), (2, false), (3, false), (4, false), (5, false), (6, false), (7, false), (8, false), (9, false), (10, false), (11, false), (14, false), (12, true), (13, false)] (by kernel_rfl) (by kernel_rfl) rfl (by kernel_rfl) ?_
        refine d_v rfl (v_makeFunc rfl rfl) rfl ?_
        refine d_v rfl (v_load (v := ptr bl 0) Try.isAgg121 rfl rfl) rfl ?_
        refine d_v rfl (v_nilCheck rfl) rfl ?_
        refine d_v rfl (v_fieldAddr 0 Try.underlying154 rfl rfl Try.sizeOf69 (by decide) rfl) rfl ?_
        refine d_v rfl (v_load (v := ptr bd 0) Try.isAgg69 rfl rfl) rfl ?_
        refine d_v rfl (v_makeFunc rfl rfl) rfl ?_
        refine d_v rfl (v_makeFunc rfl rfl) rfl ?_
        refine d_v rfl (v_load (v := ptr bl 0) Try.isAgg121 rfl rfl) rfl ?_
        refine d_v rfl (v_nilCheck rfl) rfl ?_
        refine d_v rfl (v_fieldAddr 0 Try.underlying154 rfl rfl Try.sizeOf69 (by decide) rfl) rfl ?_
        refine d_v rfl (v_load (v := ptr bd 0) Try.isAgg69 rfl rfl) rfl ?_
        refine d_v rfl (v_makeFunc rfl rfl) rfl ?_
        refine d_v rfl (v_move rfl) rfl ?_
        refine d_l rfl (l_buildSlice [[.func (.func 98) #[] #[ptr b2 0, ptr b3 0]], [.func (.func 60) #[ptr bd 0] #[]], [.func (.func 100) #[] #[ptr b2 0, ptr b8 0, ptr b3 0]], [.func (.func 60) #[ptr bd 0] #[]]] Try.underlying168 Try.sizeOf74 Try.zeroValue74 rfl rfl rfl (by simp) (by decide) (by decide)) rfl ?_
        rintro _ _ ⟨b54, rfl, rfl⟩
        refine d_v rfl (v_len Try.underlying168 rfl) rfl ?_
        refine d_nil ?_
        refine g_block ?_
        refine g_loop (α := Nat × DiskM) (fun z => z.1 ≤ 4 ∧ okW N (i + 100 * z.1) z.2 ∧ runS D (addL from_ many first used c) = runS z.2 (restA from_ many first used c z.1)) (fun z => U [(2, ptr b2 0), (3, ptr b3 0), (8, ptr b8 0), (54, sl (some ⟨b54, 0, none⟩) 4 4), (55, I 4), (56, I z.1)]) (fun z => pt b2 (.cells #[ptr bl 0] 121 (0, 0)) :: pt b3 (.cells #[sl s c.length cap] 49 (0, 0)) :: pt b8 (.cells #[I ((used + c.length : Nat) : Int)] 3 (0, 0)) :: pt bl (.cells (lgC bd from_ many first (used)) 154 (0, 0)) :: dsk 117 135 bd (z.2) :: roL 3 s (chR c) :: owL 74 1 (some ⟨b54, 0, none⟩) 4 [[.func (.func 98) #[] #[ptr b2 0, ptr b3 0]], [.func (.func 60) #[ptr bd 0] #[]], [.func (.func 100) #[] #[ptr b2 0, ptr b8 0, ptr b3 0]], [.func (.func 60) #[ptr bd 0] #[]]] :: F) (fun z => 4 - z.1) (0, D) ⟨by simp, hok, rfl⟩ [2, 3, 8, 54, 55, 56] rfl rfl ?_
        rintro ⟨k, D'⟩ ⟨hk, ok', hrun⟩
        simp only [] at hk ok' hrun ⊢
        refine g_seq ?_
        refine g_reg ?_
        refine g_v (v_lss rfl rfl) rfl ?_
        refine g_nil ?_
        refine g_seq ?_
        refine g_cond rfl (fun h57 => ?_) (fun h57 => ?_)
        · simp at h57
          refine g_skip ?_
          refine g_seq ?_
          refine g_block ?_
          refine g_seq ?_
          refine g_reg ?_
          rcases (by omega : k = 0 ∨ k = 1 ∨ k = 2 ∨ k = 3) with rfl | rfl | rfl | rfl
          · skip
            refine g_v (v_idxS 0 Try.underlying168 Try.sizeOf74 rfl rfl rfl (by decide) (by simp)) rfl ?_
            refine g_v (v_loadS0 (v := .func (.func 98) #[] #[ptr b2 0, ptr b3 0]) Try.isAgg74 rfl rfl rfl) rfl ?_
            refine g_v (v_assign rfl) rfl ?_
            refine g_nil ?_
            refine g_seq ?_
            refine g_reg ?_
            refine g_v (v_move rfl) rfl ?_
            refine g_l (l_callV (fi := []) (cap := [ptr b2 0, ptr b3 0]) (Pre := [pt b2 (.cells #[ptr bl 0] 121 (0, 0)), pt b3 (.cells #[sl s c.length cap] 49 (0, 0)), pt bl (.cells (lgC bd from_ many first (used)) 154 (0, 0)), dsk 117 135 bd (D'), roL 3 s (chR c)]) Try.call98 rfl rfl (ct_log_Add1 b2 b3 bl bd from_ many first used c s cap N (i + 100 * 0) D' ok' ⟨hN.1, by omega⟩ hb hc ⟨hlen, by omega⟩)) rfl ?_
            rintro _ _ ⟨rfl, rfl⟩
            refine g_v (v_assign rfl) rfl ?_
            refine g_nil ?_
            refine g_seq ?_
            refine g_reg ?_
            refine g_v (v_move rfl) rfl ?_
            refine g_v (v_ineq Try.underlying33 rfl) rfl ?_
            refine g_nil ?_
            refine g_cond rfl (fun h63 => ?_) (fun h63 => ?_)
            · simp at h63
              rw [show restA from_ many first used c 0 = layL from_ many first used c ++ [none, endW from_ first used c.length, none] from rfl, run_app, if_neg h63] at hrun
              obtain ⟨ae, ad, au⟩ := add_badR hv0 hrun h63
              rw [ae, ad, au]
              refine g_seq ?_
              refine g_reg ?_
              refine g_v (v_move rfl) rfl ?_
              refine g_v (v_assign rfl) rfl ?_
              refine g_nil ?_
              exact g_ret1 rfl rfl rfl
            · simp at h63
              have hnext : runS D (addL from_ many first used c) = runS (runS D' (layL from_ many first used c)).2 (restA from_ many first used c 1) := by rw [hrun, show restA from_ many first used c 0 = layL from_ many first used c ++ [none, endW from_ first used c.length, none] from rfl, run_app, if_pos h63]; rfl
              have hll := layL_len from_ many first used c
              refine g_skip ?_
              refine g_blk ?_
              refine g_reg ?_
              refine g_v (v_add rfl rfl (w64 (by omega))) rfl ?_
              refine g_v (v_move rfl) rfl ?_
              refine g_nil ?_
              exact g_again (1, (runS D' (layL from_ many first used c)).2) ⟨by simp, okW_le (okW_run _ _ _ ok') (by simp only []; omega), hnext⟩ (by simp) [2, 3, 8, 54, 55, 56] rfl rfl
          · skip
            refine g_v (v_idxS 1 Try.underlying168 Try.sizeOf74 rfl rfl rfl (by decide) (by simp)) rfl ?_
            refine g_v (v_loadS0 (v := .func (.func 60) #[ptr bd 0] #[]) Try.isAgg74 rfl rfl rfl) rfl ?_
            refine g_v (v_assign rfl) rfl ?_
            refine g_nil ?_
            refine g_seq ?_
            refine g_reg ?_
            refine g_v (v_move rfl) rfl ?_
            refine g_l (l_callV (fi := [ptr bd 0]) (cap := []) (Pre := [dsk 117 135 bd (D')]) Try.call60 rfl rfl (ct_disk_Flush bd D' ok'.2.2.1 (by rw [ok'.1, ok'.2.1]) (by rw [ok'.2.1]; omega))) rfl ?_
            rintro _ _ ⟨rfl, rfl⟩
            refine g_v (v_assign rfl) rfl ?_
            refine g_nil ?_
            refine g_seq ?_
            refine g_reg ?_
            refine g_v (v_move rfl) rfl ?_
            refine g_v (v_ineq Try.underlying33 rfl) rfl ?_
            refine g_nil ?_
            refine g_cond rfl (fun h63 => ?_) (fun h63 => ?_)
            · simp at h63
              rw [show restA from_ many first used c 1 = none :: restA from_ many first used c 2 from rfl, run_badF h63] at hrun
              obtain ⟨ae, ad, au⟩ := add_badR hv0 hrun h63
              rw [ae, ad, au]
              refine g_seq ?_
              refine g_reg ?_
              refine g_v (v_move rfl) rfl ?_
              refine g_v (v_assign rfl) rfl ?_
              refine g_nil ?_
              exact g_ret1 rfl rfl rfl
            · simp at h63
              have hnext : runS D (addL from_ many first used c) = runS (flushD D') (restA from_ many first used c 2) := by rw [hrun, show restA from_ many first used c 1 = none :: restA from_ many first used c 2 from rfl, run_okF h63]
              refine g_skip ?_
              refine g_blk ?_
              refine g_reg ?_
              refine g_v (v_add rfl rfl (w64 (by omega))) rfl ?_
              refine g_v (v_move rfl) rfl ?_
              refine g_nil ?_
              exact g_again (2, flushD D') ⟨by simp, okW_le (okW_flush ok') (by simp), hnext⟩ (by simp) [2, 3, 8, 54, 55, 56] rfl rfl
          · skip
            refine g_v (v_idxS 2 Try.underlying168 Try.sizeOf74 rfl rfl rfl (by decide) (by simp)) rfl ?_
            refine g_v (v_loadS0 (v := .func (.func 100) #[] #[ptr b2 0, ptr b8 0, ptr b3 0]) Try.isAgg74 rfl rfl rfl) rfl ?_
            refine g_v (v_assign rfl) rfl ?_
            refine g_nil ?_
            refine g_seq ?_
            refine g_reg ?_
            refine g_v (v_move rfl) rfl ?_
            refine g_l (l_callV (fi := []) (cap := [ptr b2 0, ptr b8 0, ptr b3 0]) (Pre := [pt b2 (.cells #[ptr bl 0] 121 (0, 0)), pt b8 (.cells #[I ((used + c.length : Nat) : Int)] 3 (0, 0)), pt b3 (.cells #[sl s c.length cap] 49 (0, 0)), pt bl (.cells (lgC bd from_ many first (used)) 154 (0, 0)), dsk 117 135 bd (D'), roL 3 s (chR c)]) Try.call100 rfl rfl (ct_log_Add2 b2 b8 b3 bl bd from_ many first used c s cap N (i + 100 * 2) D' ok' ⟨hN.1, by omega⟩ hb hlen)) rfl ?_
            rintro _ _ ⟨rfl, rfl⟩
            refine g_v (v_assign rfl) rfl ?_
            refine g_nil ?_
            refine g_seq ?_
            refine g_reg ?_
            refine g_v (v_move rfl) rfl ?_
            refine g_v (v_ineq Try.underlying33 rfl) rfl ?_
            refine g_nil ?_
            refine g_cond rfl (fun h63 => ?_) (fun h63 => ?_)
            · simp at h63
              rw [show restA from_ many first used c 2 = endW from_ first used c.length :: restA from_ many first used c 3 from rfl, run_bad h63] at hrun
              obtain ⟨ae, ad, au⟩ := add_badR hv0 hrun h63
              rw [ae, ad, au]
              refine g_seq ?_
              refine g_reg ?_
              refine g_v (v_move rfl) rfl ?_
              refine g_v (v_assign rfl) rfl ?_
              refine g_nil ?_
              exact g_ret1 rfl rfl rfl
            · simp at h63
              have hnext : runS D (addL from_ many first used c) = runS (stD D' (endW from_ first used c.length)) (restA from_ many first used c 3) := by rw [hrun, show restA from_ many first used c 2 = endW from_ first used c.length :: restA from_ many first used c 3 from rfl, run_ok h63]
              refine g_skip ?_
              refine g_blk ?_
              refine g_reg ?_
              refine g_v (v_add rfl rfl (w64 (by omega))) rfl ?_
              refine g_v (v_move rfl) rfl ?_
              refine g_nil ?_
              exact g_again (3, stD D' (endW from_ first used c.length)) ⟨by simp, okW_le (okW_st ok' _) (by simp), hnext⟩ (by simp) [2, 3, 8, 54, 55, 56] rfl rfl
          · skip
            refine g_v (v_idxS 3 Try.underlying168 Try.sizeOf74 rfl rfl rfl (by decide) (by simp)) rfl ?_
            refine g_v (v_loadS0 (v := .func (.func 60) #[ptr bd 0] #[]) Try.isAgg74 rfl rfl rfl) rfl ?_
            refine g_v (v_assign rfl) rfl ?_
            refine g_nil ?_
            refine g_seq ?_
            refine g_reg ?_
            refine g_v (v_move rfl) rfl ?_
            refine g_l (l_callV (fi := [ptr bd 0]) (cap := []) (Pre := [dsk 117 135 bd (D')]) Try.call60 rfl rfl (ct_disk_Flush bd D' ok'.2.2.1 (by rw [ok'.1, ok'.2.1]) (by rw [ok'.2.1]; omega))) rfl ?_
            rintro _ _ ⟨rfl, rfl⟩
            refine g_v (v_assign rfl) rfl ?_
            refine g_nil ?_
            refine g_seq ?_
            refine g_reg ?_
            refine g_v (v_move rfl) rfl ?_
            refine g_v (v_ineq Try.underlying33 rfl) rfl ?_
            refine g_nil ?_
            refine g_cond rfl (fun h63 => ?_) (fun h63 => ?_)
            · simp at h63
              rw [show restA from_ many first used c 3 = none :: restA from_ many first used c 4 from rfl, run_badF h63] at hrun
              obtain ⟨ae, ad, au⟩ := add_badR hv0 hrun h63
              rw [ae, ad, au]
              refine g_seq ?_
              refine g_reg ?_
              refine g_v (v_move rfl) rfl ?_
              refine g_v (v_assign rfl) rfl ?_
              refine g_nil ?_
              exact g_ret1 rfl rfl rfl
            · simp at h63
              have hnext : runS D (addL from_ many first used c) = runS (flushD D') (restA from_ many first used c 4) := by rw [hrun, show restA from_ many first used c 3 = none :: restA from_ many first used c 4 from rfl, run_okF h63]
              refine g_skip ?_
              refine g_blk ?_
              refine g_reg ?_
              refine g_v (v_add rfl rfl (w64 (by omega))) rfl ?_
              refine g_v (v_move rfl) rfl ?_
              refine g_nil ?_
              exact g_again (4, flushD D') ⟨by simp, okW_le (okW_flush ok') (by simp), hnext⟩ (by simp) [2, 3, 8, 54, 55, 56] rfl rfl
        · simp at h57
          obtain rfl : k = 4 := by omega
          rw [show restA from_ many first used c 4 = [] from rfl, run_nil] at hrun
          obtain ⟨ae, ad, au⟩ := add_okR hv0 hrun
          rw [ae, ad, au]
          refine g_exit rfl ?_
          refine g_seq ?_
          refine g_reg ?_
          refine g_v (v_load (v := ptr bl 0) Try.isAgg121 rfl rfl) rfl ?_
          refine g_v (v_load (v := I ((used + c.length : Nat) : Int)) Try.isAgg3 rfl rfl) rfl ?_
          refine g_v (v_add (r := ((used + c.length + 1 : Nat) : Int)) rfl rfl (by rw [show ((used + c.length : Nat) : Int) + 1 = ((used + c.length + 1 : Nat) : Int) by omega]; exact w64 (by omega))) rfl ?_
          refine g_v (v_nilCheck rfl) rfl ?_
          refine g_v (v_fieldAddr 4 Try.underlying154 rfl rfl Try.sizeOf3 (by decide) rfl) rfl ?_
          refine g_l0 (l_store (lgC bd from_ many first (used + c.length + 1)) Try.sizeOf3 rfl rfl rfl (by simp) rfl) ?_
          rintro _ _ rfl
          refine g_nil ?_
          refine g_seq ?_
          refine g_reg ?_
          refine g_v (v_assign rfl) rfl ?_
          refine g_nil ?_
          exact g_ret1 rfl rfl rfl

end Go.Proofs.Ythdjckbjjfiopac
