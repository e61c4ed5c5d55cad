/- Walks through package store: formatting. No condition. -/
import Derived.Test.YthdjckbjjfiopacStP
namespace Go.Proofs.Ythdjckbjjfiopac
open Go Go.Sl Go.Proofs
set_option linter.unusedVariables false
set_option linter.unusedSimpArgs false

theorem ct_store_Format (bd N i : Nat) (D : DiskM) (hok : okW N i D) (hi : i ≤ 100000) (hN0 : N ≤ 260) (F : List HProp) : Ct Try.prog 55 [ptr bd 0] ([dsk 117 135 bd (D)] ++ F) (fun v L' => (N < 196 ∧ v = errV 8 ∧ L' = dsk 117 135 bd (D) :: F) ∨ (196 ≤ N ∧ ∃ e D1, runS D (fmL N) = (e, D1) ∧ v = errV e ∧ L' = dsk 117 135 bd (D1) :: F)) := by
  show Ct Try.prog 55 [ptr bd 0] (dsk 117 135 bd (D) :: F) _
  refine Ct.of Try.func55 rfl 39 Try.ntmps55 (by simp) fun w0 => ?_
  refine g_seq ?_
  refine g_reg ?_
  refine g_v (v_assign rfl) rfl ?_
  refine g_nil ?_
  refine g_seq ?_
  refine g_seq ?_
  refine g_reg ?_
  refine g_v (v_move rfl) rfl ?_
  refine g_l (l_call (Pre := [dsk 117 135 bd (D)]) (R := fun F => R1 (I ((D).now.length : Int)) (dsk 117 135 bd (D) :: F)) Try.call63 rfl (ct_disk_Sectors bd D)) rfl ?_
  rintro _ _ ⟨rfl, rfl⟩
  refine g_v (v_lss rfl rfl) rfl ?_
  refine g_nil ?_
  refine g_cond rfl (fun h7 => ?_) (fun h7 => ?_)
  · simp at h7
    have h7' : N < 196 := by have := hok.2.1; omega
    refine g_seq ?_
    refine g_reg ?_
    refine g_v (v_iface Try.underlying94 rfl rfl) rfl ?_
    refine g_v (v_assign rfl) rfl ?_
    refine g_nil ?_
    exact g_retAny (dsk 117 135 bd (D) :: F) rfl (.inl ⟨h7', rfl, rfl⟩)
  · simp at h7
    have h7' : 196 ≤ N := by have := hok.2.1; omega
    refine g_skip ?_
    refine g_seq ?_
    refine g_reg ?_
    refine g_v (v_move rfl) rfl ?_
    refine g_l (l_call (Pre := [dsk 117 135 bd (D)]) Try.call59 rfl (ct_disk_Write bd D ((0 : Nat) : Int) [] hok.2.2.1 (by have := hok.2.2.2.2; omega))) rfl ?_
    rintro _ _ ⟨rfl, rfl⟩
    refine g_v (v_assign rfl) rfl ?_
    refine g_nil ?_
    refine g_seq ?_
    refine g_seq ?_
    refine g_reg ?_
    refine g_v (v_assign rfl) rfl ?_
    refine g_nil ?_
    refine g_block ?_
    refine g_loop (α := Nat × Int × DiskM) (fun z => z.1 ≤ N - 122 ∧ runS D (fmW z.1) = (z.2.1, z.2.2)) (fun z => U [(0, ptr bd 0), (3, errV z.2.1), (4, I ((122 + z.1 : Nat) : Int))]) (fun z => dsk 117 135 bd (z.2.2) :: F) (fun z => N - z.1) (0, writeE D ((0 : Nat) : Int) [], writeD D ((0 : Nat) : Int) []) ⟨Nat.zero_le _, run_snoc (l := []) rfl⟩ [0, 3, 4] rfl rfl ?_
    rintro ⟨k, e, X⟩ ⟨hk, hrun⟩
    simp only [] at hk hrun ⊢
    have hokk := okW_run (fmW k) i D hok
    rw [hrun, fmW_len] at hokk
    simp only at hokk
    refine g_seq ?_
    refine g_seq ?_
    refine g_reg ?_
    refine g_v (v_move rfl) rfl ?_
    refine g_v (v_move rfl) rfl ?_
    refine g_l (l_call (Pre := [dsk 117 135 bd (X)]) (R := fun F => R1 (I ((X).now.length : Int)) (dsk 117 135 bd (X) :: F)) Try.call63 rfl (ct_disk_Sectors bd X)) rfl ?_
    rintro _ _ ⟨rfl, rfl⟩
    refine g_v (v_lss rfl rfl) rfl ?_
    refine g_v (v_move rfl) rfl ?_
    refine g_gv rfl rfl (fun hg => v_move rfl) rfl rfl ?_
    refine g_gv rfl rfl (fun hg => v_ieql Try.underlying33 rfl) rfl rfl ?_
    refine g_v (v_and rfl rfl) rfl ?_
    refine g_nil ?_
    refine g_cond rfl (fun h18 => ?_) (fun h18 => ?_)
    · simp at h18
      have he0 : e = 0 := h18.2
      have hkn : 122 + k < N := by have := hokk.2.1; omega
      refine g_skip ?_
      refine g_seq ?_
      refine g_block ?_
      refine g_reg ?_
      refine g_v (v_move rfl) rfl ?_
      refine g_v (v_move rfl) rfl ?_
      refine g_l (l_call (Pre := [dsk 117 135 bd (X)]) Try.call59 rfl (ct_disk_Write bd X ((122 + k : Nat) : Int) [] hokk.2.2.1 (by have := hokk.2.2.2.2; omega))) rfl ?_
      rintro _ _ ⟨rfl, rfl⟩
      refine g_v (v_assign rfl) rfl ?_
      refine g_nil ?_
      refine g_blk ?_
      refine g_reg ?_
      refine g_v (v_move rfl) rfl ?_
      refine g_v (v_add (r := ((122 + (k + 1) : Nat) : Int)) rfl rfl (by rw [show ((122 + k : Nat) : Int) + 1 = ((122 + (k + 1) : Nat) : Int) by omega]; exact w64 (by omega))) rfl ?_
      refine g_v (v_assign rfl) rfl ?_
      refine g_nil ?_
      exact g_again (k + 1, writeE X ((122 + k : Nat) : Int) [], writeD X ((122 + k : Nat) : Int) []) ⟨by simp only []; omega, by simp only []; rw [fmW, run_snoc (by rw [hrun, he0])]; rfl⟩ (by simp only []; omega) [0, 3, 4] rfl rfl
    · simp at h18
      have hst : k = N - 122 ∨ e ≠ 0 := by
        have := hokk.2.1
        by_cases he : e = 0
        · left
          by_cases hx : 122 + k < N
          · exact absurd he (h18 (by omega))
          · omega
        · exact .inr he
      have hf := fmW_stop hrun hst hk
      refine g_exit rfl ?_
      refine g_seq ?_
      refine g_seq ?_
      refine g_reg ?_
      refine g_v (v_move rfl) rfl ?_
      refine g_v (v_ieql Try.underlying33 rfl) rfl ?_
      refine g_nil ?_
      refine g_cut (α := Int × DiskM) (fun z => runS D (fmW (N - 122) ++ [none]) = z) (fun z => U [(0, ptr bd 0), (3, errV z.1)]) (fun z => dsk 117 135 bd (z.2) :: F) ?_ ?_
      · skip
        refine g_cond rfl (fun h25 => ?_) (fun h25 => ?_)
        · have he : e = 0 := by simpa using h25
          subst he
          refine g_reg ?_
          refine g_v (v_move rfl) rfl ?_
          refine g_l (l_call (Pre := [dsk 117 135 bd (X)]) Try.call60 rfl (ct_disk_Flush bd X hokk.2.2.1 (by rw [hokk.1, hokk.2.1]) (by rw [hokk.2.1]; omega))) rfl ?_
          rintro _ _ ⟨rfl, rfl⟩
          refine g_v (v_assign rfl) rfl ?_
          refine g_nil ?_
          exact g_here (stepE X, flushD X) (run_snoc (x := none) hf) [0, 3] rfl rfl
        · have he : ¬ e = 0 := by simpa using h25
          refine g_skip ?_
          exact g_here (e, X) (run_stop hf he) [0, 3] rfl rfl
      rintro ⟨e1, X1⟩ h1
      simp only at h1 ⊢
      have hok1 := okW_run (fmW (N - 122) ++ [none]) i D hok
      rw [h1, List.length_append, fmW_len] at hok1
      simp only [List.length_cons, List.length_nil] at hok1
      refine g_seq ?_
      refine g_seq ?_
      refine g_reg ?_
      refine g_v (v_move rfl) rfl ?_
      refine g_v (v_ieql Try.underlying33 rfl) rfl ?_
      refine g_nil ?_
      refine g_cut (α := Int × DiskM) (fun z => runS D (fmW (N - 122) ++ [none] ++ [some (1, headB hd1)]) = z) (fun z => U [(0, ptr bd 0), (3, errV z.1)]) (fun z => dsk 117 135 bd (z.2) :: F) ?_ ?_
      · skip
        refine g_cond rfl (fun h29 => ?_) (fun h29 => ?_)
        · have he1 : e1 = 0 := by simpa using h29
          subst he1
          refine g_reg ?_
          refine g_v (v_move rfl) rfl ?_
          refine g_v (v_build rfl (bld120_0_1_2_3 _ rfl _ rfl _ rfl _ rfl)) rfl ?_
          refine g_l (l_call (Pre := []) Try.call61 rfl (ct_store_text hd1)) rfl ?_
          rintro _ _ ⟨rfl, rfl⟩
          refine g_l (l_call (Pre := [dsk 117 135 bd (X1)]) Try.call59 rfl (ct_disk_Write bd X1 ((1 : Nat) : Int) (headB hd1) hok1.2.2.1 (by have := hok1.2.2.2.2; omega))) rfl ?_
          rintro _ _ ⟨rfl, rfl⟩
          refine g_v (v_assign rfl) rfl ?_
          refine g_nil ?_
          exact g_here (writeE X1 ((1 : Nat) : Int) (headB hd1), writeD X1 ((1 : Nat) : Int) (headB hd1)) (run_snoc h1) [0, 3] rfl rfl
        · have he1 : ¬ e1 = 0 := by simpa using h29
          refine g_skip ?_
          exact g_here (e1, X1) (run_stop h1 he1) [0, 3] rfl rfl
      rintro ⟨e2, X2⟩ h2
      simp only at h2 ⊢
      have hok2 := okW_run (fmW (N - 122) ++ [none] ++ [some (1, headB hd1)]) i D hok
      rw [h2, List.length_append, List.length_append, fmW_len] at hok2
      simp only [List.length_cons, List.length_nil] at hok2
      refine g_seq ?_
      refine g_seq ?_
      refine g_reg ?_
      refine g_v (v_move rfl) rfl ?_
      refine g_v (v_ieql Try.underlying33 rfl) rfl ?_
      refine g_nil ?_
      refine g_cut (α := Int × DiskM) (fun z => runS D (fmL N) = z) (fun z => U [(0, ptr bd 0), (3, errV z.1)]) (fun z => dsk 117 135 bd (z.2) :: F) ?_ ?_
      · skip
        refine g_cond rfl (fun h35 => ?_) (fun h35 => ?_)
        · have he2 : e2 = 0 := by simpa using h35
          subst he2
          refine g_reg ?_
          refine g_v (v_move rfl) rfl ?_
          refine g_l (l_call (Pre := [dsk 117 135 bd (X2)]) Try.call60 rfl (ct_disk_Flush bd X2 hok2.2.2.1 (by rw [hok2.1, hok2.2.1]) (by rw [hok2.2.1]; omega))) rfl ?_
          rintro _ _ ⟨rfl, rfl⟩
          refine g_v (v_assign rfl) rfl ?_
          refine g_nil ?_
          exact g_here (stepE X2, flushD X2) (by have := run_snoc (x := none) h2; rw [List.append_assoc, List.append_assoc] at this; exact this) [0, 3] rfl rfl
        · have he2 : ¬ e2 = 0 := by simpa using h35
          refine g_skip ?_
          exact g_here (e2, X2) (by have := run_stop (r := [none]) h2 he2; rw [List.append_assoc, List.append_assoc] at this; exact this) [0, 3] rfl rfl
      rintro ⟨e3, X3⟩ h3
      simp only at h3 ⊢
      refine g_seq ?_
      refine g_reg ?_
      refine g_v (v_move rfl) rfl ?_
      refine g_v (v_assign rfl) rfl ?_
      refine g_nil ?_
      exact g_retAny (dsk 117 135 bd (X3) :: F) rfl (.inr ⟨h7', e3, X3, h3, rfl, rfl⟩)

end Go.Proofs.Ythdjckbjjfiopac
