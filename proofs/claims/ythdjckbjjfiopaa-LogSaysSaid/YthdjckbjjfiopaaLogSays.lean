/- The walk through the law LogSays. No condition. -/
import Derived.Test.YthdjckbjjfiopaaLg5
import Derived.Test.YthdjckbjjfiopaaLight2
import Derived.Test.YthdjckbjjfiopaaActs
namespace Go.Proofs.Ythdjckbjjfiopaa
open Go.Sl Go.Proofs
set_option linter.unusedVariables false
set_option linter.unusedSimpArgs false
theorem now_more {L : List Bytes} {a k : Nat} (h : a + k < L.length) : (L.drop a).take (k + 1) = (L.drop a).take k ++ [L.getD (a + k) []] := by
  have h1 : (L.drop a)[k]? = some (L.getD (a + k) []) := by rw [List.getElem?_drop, getD_at h]
  exact take_at h1
theorem secL_now {D : DiskM} {a m i : Nat} (h : i < m) : secL ((D.now.drop a).take m) i = secD D a i := by
  unfold secL secD
  rw [List.getD_eq_getElem?_getD, List.getD_eq_getElem?_getD, List.getElem?_take, if_pos h, List.getElem?_drop]
theorem dR_one {gl : LogG} : ∀ r ∈ dR gl, r.length = 1 := fun r hr => by simp only [dR, List.mem_map] at hr; obtain ⟨x, _, rfl⟩ := hr; rfl
theorem dR_ones {gl : LogG} : ∀ r ∈ dR gl, ones r = true := fun r hr => by simp only [dR, List.mem_map] at hr; obtain ⟨x, _, rfl⟩ := hr; rfl
theorem okW_add {N i : Nat} {D : DiskM} (h : okW N i D) (from_ many first used : Nat) (c : List ChangeM) : okW N (i + 200) (addD from_ many first used c D) := by
  unfold addD
  split
  · rename_i hv
    obtain ⟨h1, _, _⟩ := addV_ok hv
    refine okW_le (okW_run _ _ _ h) ?_
    have := layL_len from_ many first used c
    simp only [addL, List.length_append, List.length_cons, List.length_nil]
    omega
  · exact okW_le h (by omega)
theorem set_80 {L : List Bytes} {n : Nat} {s : Bytes} (h : ∀ x ∈ L, x.length = 80) (hs : s.length ≤ 80) : ∀ x ∈ L.set n (fullB s), x.length = 80 := fun x hx => by
  rcases List.mem_or_eq_of_mem_set hx with h' | h'
  · exact h x h'
  · rw [h']; exact fullB_80 hs
structure LGS where
  i : Nat
  D : DiskM
  ga : LogG
  gb : LogG
  used : Nat
  bl : Nat
  sa : LocA
  sb : LocA

theorem ct_L_LogSays (L : List Bytes) (sL : Option Addr) (cL : Nat) (from_ many first : Int) (l : List ActM) (f : Nat → ActZ) (s : Option Addr) (cap : Nat) (hLn : L.length ≤ 9223372036854775807) (hfr : ok64 from_) (hmn : ok64 many) (hfi : ok64 first) (hl : l.length ≤ 9223372036854775807) (hla : ∀ x ∈ l, x.puts.length ≤ 9223372036854775807 ∧ x.changes.length ≤ 9223372036854775807) (F : List HProp) : Ct Try.prog 7 [sl sL L.length cL, I from_, I many, I first, sl s l.length cap] ([roL 1 sL (strR L), acts s l f] ++ F) (R1 (Bo true) (roL 1 sL (strR L) :: acts s l f :: F)) := by
  show Ct Try.prog 7 [sl sL L.length cL, I from_, I many, I first, sl s l.length cap] (roL 1 sL (strR L) :: acts s l f :: F) _
  refine Ct.of Try.func7 rfl 261 Try.ntmps7 (by simp) fun w0 => ?_
  refine g_seq ?_
  refine g_reg ?_
  refine g_v (v_assign rfl) rfl ?_
  refine g_nil ?_
  refine g_seq ?_
  refine g_reg ?_
  refine g_l (l_call (Pre := []) Try.call67 rfl (ct_L_logs)) rfl ?_
  rintro _ _ ⟨rfl, rfl⟩
  refine g_v (v_assign rfl) rfl ?_
  refine g_nil ?_
  refine g_seq ?_
  refine g_seq ?_
  refine g_reg ?_
  refine g_v (v_move rfl) rfl ?_
  refine g_v (v_not rfl) rfl ?_
  refine g_v (v_move rfl) rfl ?_
  refine g_gv rfl rfl (fun hg => v_move rfl) rfl rfl ?_
  refine g_gv rfl rfl (fun hg => v_len Try.underlying61 rfl) rfl rfl ?_
  refine g_gv rfl rfl (fun hg => v_gtr rfl rfl) rfl rfl ?_
  refine g_v (v_or rfl rfl) rfl ?_
  refine g_v (v_move rfl) rfl ?_
  refine g_gv rfl rfl (fun hg => v_move rfl) rfl rfl ?_
  refine g_gq rfl rfl (fun hg => l_call (Pre := [acts s l f]) (R := fun F => R1 (Bo (lightA l 20)) (acts s l f :: F)) Try.call28 rfl (ct_L_LightActs l f s cap 20 hl hla)) rfl rfl ?_
  refine g_gv rfl rfl (fun hg => v_not rfl) rfl rfl ?_
  refine g_v (v_or rfl rfl) rfl ?_
  refine g_v (v_move rfl) rfl ?_
  refine g_gv rfl rfl (fun hg => v_move rfl) rfl rfl ?_
  refine g_gv rfl rfl (fun hg => v_gtr rfl rfl) rfl rfl ?_
  refine g_v (v_or rfl rfl) rfl ?_
  refine g_nil ?_
  refine g_cond rfl (fun h44 => ?_) (fun h44 => ?_)
  · skip
    refine g_seq ?_
    refine g_reg ?_
    refine g_v (v_move rfl) rfl ?_
    refine g_v (v_assign rfl) rfl ?_
    refine g_nil ?_
    refine g_ret1 rfl rfl ?_
    exact rfl
  · simp at h44
    obtain ⟨⟨hL40, hli⟩, hf1⟩ := h44
    have hll : l.length ≤ 20 := by unfold lightA at hli; simp at hli; omega
    refine g_skip ?_
    refine g_seq ?_
    refine g_seq ?_
    refine g_reg ?_
    refine g_v (v_assign rfl) rfl ?_
    refine g_nil ?_
    refine g_block ?_
    refine g_loop (α := Nat) (fun k => k ≤ L.length ∧ ∀ x ∈ L.take k, x.length ≤ 80) (fun k => U [(0, sl sL L.length cL), (1, I from_), (2, I many), (3, I first), (4, sl s l.length cap), (12, I k)]) (fun _ => roL 1 sL (strR L) :: acts s l f :: F) (fun k => L.length - k) 0 ⟨by simp, by simp⟩ [0, 1, 2, 3, 4, 12] rfl rfl ?_
    rintro k ⟨hk, ht80⟩
    refine g_seq ?_
    refine g_seq ?_
    refine g_reg ?_
    refine g_v (v_move rfl) rfl ?_
    refine g_v (v_move rfl) rfl ?_
    refine g_v (v_len Try.underlying61 rfl) rfl ?_
    refine g_v (v_lss rfl rfl) rfl ?_
    refine g_nil ?_
    refine g_cond rfl (fun h49 => ?_) (fun h49 => ?_)
    · simp at h49
      have hkL : k < L.length := by omega
      obtain ⟨x, hx⟩ : ∃ x, L[k]? = some x := ⟨_, List.getElem?_eq_getElem hkL⟩
      refine g_skip ?_
      refine g_seq ?_
      refine g_block ?_
      refine g_seq ?_
      refine g_reg ?_
      refine g_v (v_move rfl) rfl ?_
      refine g_v (v_move rfl) rfl ?_
      refine g_v (v_idxS k Try.underlying61 Try.sizeOf9 rfl rfl rfl hkL (by rw [strR_len]; exact hkL)) rfl ?_
      refine g_v (v_loadS0 Try.isAgg9 rfl (strR_at hx) rfl) rfl ?_
      refine g_v (v_slen Try.underlying9 rfl) rfl ?_
      refine g_v (v_gtr rfl rfl) rfl ?_
      refine g_nil ?_
      refine g_cond rfl (fun h57 => ?_) (fun h57 => ?_)
      · skip
        refine g_seq ?_
        refine g_reg ?_
        refine g_v (v_assign rfl) rfl ?_
        refine g_nil ?_
        refine g_ret1 rfl rfl ?_
        exact rfl
      · simp at h57
        refine g_skip ?_
        refine g_blk ?_
        refine g_reg ?_
        refine g_v (v_move rfl) rfl ?_
        refine g_v (v_add (r := ((k + 1 : Nat) : Int)) rfl rfl (by rw [show ((k : Nat) : Int) + 1 = ((k + 1 : Nat) : Int) by omega]; exact w64 (by omega))) rfl ?_
        refine g_v (v_assign rfl) rfl ?_
        refine g_nil ?_
        refine g_again (k + 1) ⟨by omega, ?_⟩ (by omega) [0, 1, 2, 3, 4, 12] rfl rfl
        rw [take_at hx]
        intro y hy
        rcases List.mem_append.1 hy with hy | hy
        · exact ht80 y hy
        · rw [List.mem_singleton] at hy; subst hy; omega
    · simp at h49
      obtain rfl : k = L.length := by omega
      have hL80 := ht80
      rw [List.take_length] at hL80
      refine g_exit rfl ?_
      refine g_seq ?_
      refine g_reg ?_
      refine g_v (v_move rfl) rfl ?_
      refine g_v (v_len Try.underlying61 rfl) rfl ?_
      refine g_v (v_max rfl rfl) rfl ?_
      refine g_l (l_call (Pre := []) Try.call29 rfl (ct_disk_New (if (1 : Int) < (L.length : Int) then (L.length : Int) else 1))) rfl ?_
      rintro _ _ (⟨hno, _, _⟩ | ⟨_, b62, rfl, rfl⟩)
      · exact absurd (by split <;> omega) hno
      obtain ⟨N, hNe⟩ : ∃ N : Nat, (if (1 : Int) < (L.length : Int) then (L.length : Int) else 1).toNat = N := ⟨_, rfl⟩
      rw [hNe]
      have hN1 : 1 ≤ N ∧ N ≤ 40 ∧ L.length ≤ N := by rw [← hNe]; split <;> omega
      refine g_v (v_move rfl) rfl ?_
      refine g_v (v_extract (v := ptr b62 0) rfl rfl) rfl ?_
      refine g_v (v_extract (v := errV 0) rfl rfl) rfl ?_
      refine g_v (v_assign rfl) rfl ?_
      refine g_v (v_assign rfl) rfl ?_
      refine g_nil ?_
      refine g_seq ?_
      refine g_seq ?_
      refine g_reg ?_
      refine g_v (v_move rfl) rfl ?_
      refine g_v (v_ineq Try.underlying26 rfl) rfl ?_
      refine g_v (v_move rfl) rfl ?_
      refine g_gv1 rfl rfl rfl (v_move rfl) rfl ?_
      refine g_gv1 rfl rfl rfl (v_pnil Try.underlying41 rfl) rfl ?_
      refine g_v (v_or rfl rfl) rfl ?_
      refine g_nil ?_
      refine g_cond rfl (fun h70 => ?_) (fun h70 => ?_)
      · simp at h70
      · skip
        refine g_skip ?_
        refine g_seq ?_
        refine g_seq ?_
        refine g_reg ?_
        refine g_v (v_assign rfl) rfl ?_
        refine g_nil ?_
        refine g_block ?_
        refine g_loop (α := Nat × DiskM) (fun z => z.1 ≤ L.length ∧ okW N z.1 z.2 ∧ upW z.2 ∧ ∀ x ∈ z.2.now, x.length = 80) (fun z => U [(0, sl sL L.length cL), (1, I from_), (2, I many), (3, I first), (4, sl s l.length cap), (13, ptr b62 0), (15, I z.1)]) (fun z => dsk 184 187 b62 (z.2) :: acts s l f :: roL 1 sL (strR L) :: F) (fun z => L.length - z.1) (0, newD N) ⟨by simp, okW_newN N, up_new N, new_80 N⟩ [0, 1, 2, 3, 4, 13, 15] rfl rfl ?_
        rintro ⟨k, D⟩ ⟨hk, hok, hup, h80⟩
        simp only [] at hk hok hup h80 ⊢
        refine g_seq ?_
        refine g_seq ?_
        refine g_reg ?_
        refine g_v (v_move rfl) rfl ?_
        refine g_v (v_move rfl) rfl ?_
        refine g_v (v_len Try.underlying61 rfl) rfl ?_
        refine g_v (v_lss rfl rfl) rfl ?_
        refine g_nil ?_
        refine g_cond rfl (fun h74 => ?_) (fun h74 => ?_)
        · simp at h74
          have hkL : k < L.length := by omega
          obtain ⟨x, hx⟩ : ∃ x, L[k]? = some x := ⟨_, List.getElem?_eq_getElem hkL⟩
          refine g_skip ?_
          refine g_seq ?_
          refine g_block ?_
          refine g_seq ?_
          refine g_reg ?_
          refine g_v (v_move rfl) rfl ?_
          refine g_v (v_move rfl) rfl ?_
          refine g_v (v_move rfl) rfl ?_
          refine g_v (v_move rfl) rfl ?_
          refine g_v (v_idxS k Try.underlying61 Try.sizeOf9 rfl rfl rfl hkL (by rw [strR_len]; exact hkL)) rfl ?_
          refine g_v (v_loadS0 Try.isAgg9 rfl (strR_at hx) rfl) rfl ?_
          refine g_l (l_call (Pre := [dsk 184 187 b62 (D)]) Try.call32 rfl (ct_disk_Write b62 D (k : Int) x hok.2.2.1 (by have := hok.2.2.2.2; omega))) rfl ?_
          rintro _ _ ⟨rfl, rfl⟩
          have hw0 := upW_write hup (n := (k : Int)) (s := x) (by unfold badW; have := hL80 x (List.mem_of_getElem? hx); have := hok.2.1; omega)
          have hok1 := okW_write hok (k : Int) x
          rw [hw0.2] at hok1
          rw [hw0.1, hw0.2]
          refine g_v (v_ineq Try.underlying26 rfl) rfl ?_
          refine g_nil ?_
          refine g_cond rfl (fun h84 => ?_) (fun h84 => ?_)
          · simp at h84
          · skip
            refine g_skip ?_
            refine g_blk ?_
            refine g_reg ?_
            refine g_v (v_move rfl) rfl ?_
            refine g_v (v_add (r := ((k + 1 : Nat) : Int)) rfl rfl (by rw [show ((k : Nat) : Int) + 1 = ((k + 1 : Nat) : Int) by omega]; exact w64 (by omega))) rfl ?_
            refine g_v (v_assign rfl) rfl ?_
            refine g_nil ?_
            exact g_again (k + 1, wroteD D (k : Int) x) ⟨by simp; omega, hok1, ⟨hup.1, hup.2⟩, set_80 h80 (hL80 x (List.mem_of_getElem? hx))⟩ (by simp; omega) [0, 1, 2, 3, 4, 13, 15] rfl rfl
        · skip
          refine g_exit rfl ?_
          refine g_seq ?_
          refine g_reg ?_
          refine g_v (v_move rfl) rfl ?_
          refine g_v (v_move rfl) rfl ?_
          refine g_v (v_move rfl) rfl ?_
          refine g_v (v_move rfl) rfl ?_
          refine g_l (l_call (Pre := [dsk 184 187 b62 (D)]) Try.call68 rfl (ct_log_Open b62 D (from_) (many) (first) h80 ⟨by rw [hok.2.1]; omega, by omega⟩)) rfl ?_
          rintro _ _ (⟨hbad, rfl, rfl⟩ | ⟨_, hdn, _, _⟩ | ⟨hbad, _, bl, gl, so, co, used, rfl, hul, hgl, hsc, rfl⟩)
          rotate_left
          · rw [hup.1] at hdn; cases hdn
          · skip
            refine g_v (v_move rfl) rfl ?_
            refine g_v (v_extract (v := ptr bl 0) rfl rfl) rfl ?_
            refine g_v (v_extract (v := sl so gl.length co) rfl rfl) rfl ?_
            refine g_v (v_extract (v := errV 0) rfl rfl) rfl ?_
            refine g_v (v_assign rfl) rfl ?_
            refine g_v (v_assign rfl) rfl ?_
            refine g_v (v_assign rfl) rfl ?_
            refine g_nil ?_
            refine g_seq ?_
            refine g_seq ?_
            refine g_reg ?_
            refine g_v (v_move rfl) rfl ?_
            refine g_v (v_lss rfl rfl) rfl ?_
            refine g_v (v_move rfl) rfl ?_
            refine g_gv rfl rfl (fun hg => v_move rfl) rfl rfl ?_
            refine g_gv rfl rfl (fun hg => v_lss rfl rfl) rfl rfl ?_
            refine g_v (v_or rfl rfl) rfl ?_
            refine g_v (v_move rfl) rfl ?_
            refine g_gv rfl rfl (fun hg => v_move rfl) rfl rfl ?_
            refine g_gv rfl rfl (fun hg => v_move rfl) rfl rfl ?_
            refine g_gq rfl rfl (fun hg => l_call (Pre := [dsk 184 187 b62 (D)]) (R := fun F => R1 (I ((D).now.length : Int)) (dsk 184 187 b62 (D) :: F)) Try.call31 rfl (ct_disk_Sectors b62 (D))) rfl rfl ?_
            refine g_gv rfl rfl (fun hg => v_gtr rfl rfl) rfl rfl ?_
            refine g_v (v_or rfl rfl) rfl ?_
            refine g_v (v_move rfl) rfl ?_
            refine g_gv rfl rfl (fun hg => v_move rfl) rfl rfl ?_
            refine g_gv rfl rfl (fun hg => v_move rfl) rfl rfl ?_
            refine g_gq rfl rfl (fun hg => l_call (Pre := [dsk 184 187 b62 (D)]) (R := fun F => R1 (I ((D).now.length : Int)) (dsk 184 187 b62 (D) :: F)) Try.call31 rfl (ct_disk_Sectors b62 (D))) rfl rfl ?_
            refine g_gv rfl rfl (fun hg => v_move rfl) rfl rfl ?_
            refine g_gv rfl rfl (fun hg => v_sub (r := (D.now.length : Int) - many) rfl rfl (w64 (by have := hok.2.1; simp at hg; omega))) rfl rfl ?_
            refine g_gv rfl rfl (fun hg => v_gtr rfl rfl) rfl rfl ?_
            refine g_v (v_or rfl rfl) rfl ?_
            refine g_v (v_move rfl) rfl ?_
            refine g_gv rfl rfl (fun hg => v_move rfl) rfl rfl ?_
            refine g_gv rfl rfl (fun hg => v_lss rfl rfl) rfl rfl ?_
            refine g_v (v_or rfl rfl) rfl ?_
            refine g_nil ?_
            refine g_cond rfl (fun h117 => ?_) (fun h117 => ?_)
            · exfalso
              simp at h117
              exact hbad (by unfold badO; omega)
            · simp at h117
              have hb2 : ¬ (from_ < 0 ∨ many < 1 ∨ (D.now.length : Int) < many ∨ (D.now.length : Int) - many < from_ ∨ first < 1) := hbad
              obtain ⟨from_, rfl⟩ := Int.eq_ofNat_of_zero_le (show 0 ≤ from_ by omega)
              obtain ⟨many, rfl⟩ := Int.eq_ofNat_of_zero_le (show 0 ≤ many by omega)
              obtain ⟨first, rfl⟩ := Int.eq_ofNat_of_zero_le (show 0 ≤ first by omega)
              rw [show lgC b62 ((from_ : Nat) : Int).toNat ((many : Nat) : Int).toNat ((first : Nat) : Int).toNat used = lgC b62 from_ many first used from rfl]
              replace hsc : scanF first (secD D from_) many 0 [] [] 0 = (gl.map (·.1), used) := hsc
              replace hul : used ≤ many := hul
              replace hgl : gl.length ≤ many := hgl
              have hmN : from_ + many ≤ N ∧ 1 ≤ many ∧ 1 ≤ first := by have := hok.2.1; omega
              refine g_skip ?_
              refine g_seq ?_
              refine g_seq ?_
              refine g_reg ?_
              refine g_v (v_move rfl) rfl ?_
              refine g_v (v_ineq Try.underlying26 rfl) rfl ?_
              refine g_v (v_move rfl) rfl ?_
              refine g_gv1 rfl rfl rfl (v_move rfl) rfl ?_
              refine g_gv1 rfl rfl rfl (v_pnil Try.underlying109 rfl) rfl ?_
              refine g_v (v_or rfl rfl) rfl ?_
              refine g_nil ?_
              refine g_cond rfl (fun h134 => ?_) (fun h134 => ?_)
              · simp at h134
              · skip
                refine g_skip ?_
                refine g_seq ?_
                refine g_reg ?_
                refine g_v (v_assign rfl) rfl ?_
                refine g_nil ?_
                refine g_seq ?_
                refine g_seq ?_
                refine g_nilown 9 1 (strR ((D.now.drop from_).take (0))) rfl ?_
                refine g_reg ?_
                refine g_v (v_assign rfl) rfl ?_
                refine g_nil ?_
                refine g_block ?_
                refine g_loop (α := Nat × LocA) (fun z => z.1 ≤ many) (fun z => U [(1, I from_), (2, I many), (3, I first), (4, sl s l.length cap), (13, ptr b62 0), (16, ptr bl 0), (17, sl so gl.length co), (18, sl z.2.1 ((D.now.drop from_).take (z.1)).length z.2.2), (19, I z.1)]) (fun z => owL 9 1 z.2.1 z.2.2 (strR ((D.now.drop from_).take (z.1))) :: pt (bl) (.cells (lgC b62 from_ many first (used)) 206 (0, 0)) :: owL 50 1 so co (dR gl) :: dees gl :: dsk 184 187 b62 (D) :: acts s l f :: roL 1 sL (strR L) :: F) (fun z => many - z.1) (0, (none, 0)) (by simp) [1, 2, 3, 4, 13, 16, 17, 18, 19] rfl rfl ?_
                rintro ⟨k, ⟨sn, cn⟩⟩ hk
                simp only [] at hk ⊢
                have hkl : ((D.now.drop from_).take (k)).length ≤ many := by rw [List.length_take]; omega
                refine g_seq ?_
                refine g_seq ?_
                refine g_reg ?_
                refine g_v (v_move rfl) rfl ?_
                refine g_v (v_move rfl) rfl ?_
                refine g_v (v_lss rfl rfl) rfl ?_
                refine g_nil ?_
                refine g_cond rfl (fun h137 => ?_) (fun h137 => ?_)
                · simp at h137
                  have hkm : k < many := by omega
                  refine g_skip ?_
                  refine g_seq ?_
                  refine g_block ?_
                  refine g_seq ?_
                  refine g_reg ?_
                  refine g_v (v_move rfl) rfl ?_
                  refine g_v (v_move rfl) rfl ?_
                  refine g_v (v_move rfl) rfl ?_
                  refine g_v (v_add (r := ((from_ + k : Nat) : Int)) rfl rfl (by rw [show ((from_ : Nat) : Int) + ((k : Nat) : Int) = ((from_ + k : Nat) : Int) by omega]; exact w64 (by omega))) rfl ?_
                  refine g_l (l_call (Pre := [dsk 184 187 b62 (D)]) Try.call34 rfl (ct_disk_Read b62 D ((from_ + k : Nat) : Int))) rfl ?_
                  rintro _ _ ⟨rfl, rfl⟩
                  rw [show readV D ((from_ + k : Nat) : Int) = (secD D from_ k, 0) from readV_in hup.1 (by have := hok.2.1; omega) (by rw [Int.toNat_natCast]; exact getD_at (by have := hok.2.1; omega))]
                  refine g_v (v_move rfl) rfl ?_
                  refine g_v (v_extract (v := Str (secD D from_ k)) rfl rfl) rfl ?_
                  refine g_v (v_extract (v := errV 0) rfl rfl) rfl ?_
                  refine g_v (v_assign rfl) rfl ?_
                  refine g_v (v_assign rfl) rfl ?_
                  refine g_nil ?_
                  refine g_reg ?_
                  refine g_v (v_move rfl) rfl ?_
                  refine g_v (v_move rfl) rfl ?_
                  refine g_l (l_buildSlice [[Str (secD D from_ k)]] Try.underlying61 Try.sizeOf9 Try.zeroValue9 rfl rfl rfl (by simp) (by decide) (by decide)) rfl ?_
                  rintro _ _ ⟨b150, rfl, rfl⟩
                  refine g_l (l_append Try.underlying61 Try.sizeOf9 Try.zeroValue9 rfl Try.typeInfo9 (by decide) rfl rfl (strR_len _) rfl (by simp) (by simp [ones, one]) ⟨by omega, by decide, by decide⟩) rfl ?_
                  rintro _ _ ⟨s151, c151, rfl, rfl⟩
                  have hnm := now_more (L := D.now) (a := from_) (k := k) (by have := hok.2.1; omega)
                  rw [show strR ((D.now.drop from_).take (k)) ++ [[Str (secD D from_ k)]] = strR ((D.now.drop from_).take (k + 1)) by rw [hnm]; simp [strR, secD], show ((D.now.drop from_).take (k)).length + 1 = ((D.now.drop from_).take (k + 1)).length by rw [hnm]; simp]
                  refine g_v (v_assign rfl) rfl ?_
                  refine g_nil ?_
                  refine g_blk ?_
                  refine g_reg ?_
                  refine g_v (v_move rfl) rfl ?_
                  refine g_v (v_add (r := ((k + 1 : Nat) : Int)) rfl rfl (by rw [show ((k : Nat) : Int) + 1 = ((k + 1 : Nat) : Int) by omega]; exact w64 (by omega))) rfl ?_
                  refine g_v (v_assign rfl) rfl ?_
                  refine g_nil ?_
                  exact g_again (k + 1, (s151, c151)) (by simp; omega) (by simp; omega) [1, 2, 3, 4, 13, 16, 17, 18, 19] rfl rfl
                · simp at h137
                  obtain rfl : many = k := by omega
                  refine g_exit rfl ?_
                  refine g_seq ?_
                  have hnl : ((D.now.drop from_).take (many)).length = many := by have := hok.2.1; rw [List.length_take, List.length_drop]; omega
                  refine g_freeze (T := 9) (cap := cn) sn ?_
                  refine g_reg ?_
                  refine g_v (v_move rfl) rfl ?_
                  refine g_v (v_move rfl) rfl ?_
                  refine g_l (l_call (Pre := [roL 1 sn (strR ((D.now.drop from_).take (many)))]) Try.call69 rfl (ct_R_ClosedDeeds ((D.now.drop from_).take (many)) sn cn first (by rw [hnl]; omega) (fun x hx => h80 x (List.mem_of_mem_drop (List.mem_of_mem_take hx))) (by omega))) rfl ?_
                  rintro _ _ ⟨gb, sb, cb, used', rfl, hsc', _, hgb, rfl⟩
                  rw [hnl, scan_congr (sec := secD D from_) many 0 [] [] 0 (fun j _ hj => secL_now (by omega)), hsc] at hsc'
                  obtain ⟨hds, hus⟩ : gl.map (·.1) = gb.map (·.1) ∧ used = used' := by injection hsc' with h1 h2; exact ⟨h1, h2⟩
                  subst hus
                  rw [List.singleton_append]
                  refine g_v (v_move rfl) rfl ?_
                  refine g_v (v_extract (v := sl sb gb.length cb) rfl rfl) rfl ?_
                  refine g_v (v_extract (v := I used) rfl rfl) rfl ?_
                  refine g_v (v_assign rfl) rfl ?_
                  refine g_v (v_assign rfl) rfl ?_
                  refine g_nil ?_
                  refine g_seq ?_
                  refine g_seq ?_
                  refine g_freeze (T := 50) (cap := co) so ?_
                  refine g_freeze (T := 50) (cap := cb) sb ?_
                  refine g_reg ?_
                  refine g_v (v_assign rfl) rfl ?_
                  refine g_nil ?_
                  refine g_block ?_
                  refine g_loop (α := LGS) (fun z => z.i ≤ l.length ∧ okW N (40 + 300 * z.i) z.D ∧ upW z.D ∧ (∀ x ∈ z.D.now, x.length = 80) ∧ z.ga.map (·.1) = z.gb.map (·.1) ∧ scanF first (secD z.D from_) many 0 [] [] 0 = (z.gb.map (·.1), z.used) ∧ z.used ≤ many ∧ z.gb.length ≤ 40 + z.i ∧ (∀ d ∈ z.gb.map (·.1), d.length ≤ 72)) (fun z => U [(1, I from_), (2, I many), (3, I first), (4, sl s l.length cap), (13, ptr b62 0), (16, ptr z.bl 0), (17, sl z.sa.1 z.ga.length z.sa.2), (22, sl z.sb.1 z.gb.length z.sb.2), (23, I z.used), (24, I z.i)]) (fun z => pt (z.bl) (.cells (lgC b62 from_ many first (z.used)) 206 (0, 0)) :: roL 1 z.sa.1 (dR z.ga) :: dees z.ga :: roL 1 z.sb.1 (dR z.gb) :: dees z.gb :: dsk 184 187 b62 (z.D) :: acts s l f :: roL 1 sL (strR L) :: F) (fun z => l.length - z.i) (⟨0, D, gl, gb, used, bl, (so, co), (sb, cb)⟩ : LGS) ⟨by simp, okW_le hok (by omega), hup, h80, hds, by rw [← hds]; exact hsc, hul, by simp; have := congrArg List.length hds; simp at this; omega, fun d hd => Nat.le_trans (scan_lens _ _ _ _ _ _ _ hsc (by simp) (Nat.le_of_eq (Nat.zero_add _)) d (by rw [hds]; exact hd)) (by omega)⟩ [1, 2, 3, 4, 13, 16, 17, 22, 23, 24] rfl rfl ?_
                  rintro ⟨i, D, ga, gb, used, bl, ⟨sa, ca⟩, ⟨sb, cb⟩⟩ ⟨hi, hok, hup, h80, hds, hsc, hul, hgn, hln⟩
                  simp only [] at hi hok hup h80 hds hsc hul hgn hln ⊢
                  refine g_seq ?_
                  refine g_seq ?_
                  refine g_reg ?_
                  refine g_v (v_move rfl) rfl ?_
                  refine g_v (v_move rfl) rfl ?_
                  refine g_v (v_len Try.underlying39 rfl) rfl ?_
                  refine g_v (v_leq rfl rfl) rfl ?_
                  refine g_nil ?_
                  refine g_cond rfl (fun h161 => ?_) (fun h161 => ?_)
                  · skip
                    refine g_skip ?_
                    refine g_seq ?_
                    refine g_block ?_
                    refine g_seq ?_
                    refine g_seq ?_
                    refine g_reg ?_
                    refine g_v (v_move rfl) rfl ?_
                    refine g_v (v_move rfl) rfl ?_
                    refine g_l (l_call (Pre := [roL 1 sa (dR ga), dees ga, roL 1 sb (dR gb), dees gb]) Try.call70 rfl (ct_R_SameDeeds ga gb sa sb ca cb ⟨by have := congrArg List.length hds; simp at this; omega, fun x hx => Nat.le_trans (hln _ (by rw [← hds]; exact List.mem_map_of_mem hx)) (by decide)⟩ ⟨by omega, fun x hx => Nat.le_trans (hln _ (List.mem_map_of_mem hx)) (by decide)⟩)) rfl ?_
                    rintro _ _ ⟨rfl, rfl⟩
                    rw [decide_eq_true hds]
                    refine g_v (v_not rfl) rfl ?_
                    refine g_v (v_move rfl) rfl ?_
                    refine g_gv1 rfl rfl rfl (v_move rfl) rfl ?_
                    refine g_gl rfl rfl rfl (l_call (Pre := [pt (bl) (.cells (lgC b62 from_ many first (used)) 206 (0, 0))]) Try.call71 rfl (ct_log_Room bl b62 from_ many first used ⟨hul, by omega⟩)) rfl ?_
                    rintro _ _ ⟨rfl, rfl⟩
                    refine g_gv1 rfl rfl rfl (v_move rfl) rfl ?_
                    refine g_gv1 rfl rfl rfl (v_move rfl) rfl ?_
                    refine g_gv1 rfl rfl rfl (v_sub (r := ((many - used : Nat) : Int)) rfl rfl (by rw [show (many : Int) - (used : Int) = ((many - used : Nat) : Int) by omega]; exact w64 (by omega))) rfl ?_
                    refine g_gv1 rfl rfl rfl (v_neq rfl rfl) rfl ?_
                    refine g_v (v_or rfl rfl) rfl ?_
                    refine g_v (v_move rfl) rfl ?_
                    refine g_gv1 rfl rfl (by simp) (v_move rfl) rfl ?_
                    refine g_gl rfl rfl (by simp) (l_call (Pre := [pt (bl) (.cells (lgC b62 from_ many first (used)) 206 (0, 0))]) Try.call72 rfl (ct_log_Next bl b62 from_ many first used ⟨by omega, by omega⟩)) rfl ?_
                    rintro _ _ ⟨rfl, rfl⟩
                    refine g_gv1 rfl rfl (by simp) (v_move rfl) rfl ?_
                    refine g_gv1 rfl rfl (by simp) (v_move rfl) rfl ?_
                    refine g_gv1 rfl rfl (by simp) (v_add (r := ((first + many : Nat) : Int)) rfl rfl (by rw [show ((first : Nat) : Int) + ((many : Nat) : Int) = ((first + many : Nat) : Int) by omega]; exact w64 (by omega))) rfl ?_
                    refine g_gv1 rfl rfl (by simp) (v_neq rfl rfl) rfl ?_
                    refine g_v (v_or rfl rfl) rfl ?_
                    refine g_nil ?_
                    refine g_cond rfl (fun h183 => ?_) (fun h183 => ?_)
                    · simp at h183
                    · skip
                      refine g_skip ?_
                      refine g_seq ?_
                      refine g_seq ?_
                      refine g_reg ?_
                      refine g_v (v_move rfl) rfl ?_
                      refine g_v (v_move rfl) rfl ?_
                      refine g_v (v_len Try.underlying39 rfl) rfl ?_
                      refine g_v (v_eql rfl rfl) rfl ?_
                      refine g_nil ?_
                      refine g_cond rfl (fun h187 => ?_) (fun h187 => ?_)
                      · skip
                        refine g_exit rfl ?_
                        refine g_seq ?_
                        refine g_reg ?_
                        refine g_v (v_assign rfl) rfl ?_
                        refine g_nil ?_
                        refine g_ret1 rfl rfl ?_
                        exact rfl
                      · simp at h187
                        have hkn : i < l.length := by omega
                        obtain ⟨x, hx⟩ : ∃ x, l[i]? = some x := ⟨_, List.getElem?_eq_getElem hkn⟩
                        have hkr : i < (actR l f).length := by rw [actR_len]; exact hkn
                        have hxl := (hla x (List.mem_of_getElem? hx)).2
                        refine g_skip ?_
                        refine g_seq ?_
                        refine g_reg ?_
                        refine g_v (v_move rfl) rfl ?_
                        refine g_v (v_move rfl) rfl ?_
                        refine g_v (v_idxS i Try.underlying39 Try.sizeOf52 rfl rfl rfl hkn hkr) rfl ?_
                        refine g_v (v_loadAS (row := [Str x.kind, Str x.s, I x.a, I x.b, I x.c, I x.d, Uw x.k, sl (f i).1.1 x.puts.length (f i).1.2, sl (f i).2.1 x.changes.length (f i).2.2]) Try.isAgg52 Try.sizeOf52 rfl (actR_at hx) rfl) rfl ?_
                        refine g_l (l_alloc #[Str [], Str [], I 0, I 0, I 0, I 0, .int .u64 0, sl none 0 0, sl none 0 0] Try.zeroValue52) rfl ?_
                        rintro _ _ ⟨b25, rfl, rfl⟩
                        refine g_l0 (l_storeA (cs := #[Str [], Str [], I 0, I 0, I 0, I 0, .int .u64 0, sl none 0 0, sl none 0 0]) (vs := [Str x.kind, Str x.s, I x.a, I x.b, I x.c, I x.d, Uw x.k, sl (f i).1.1 x.puts.length (f i).1.2, sl (f i).2.1 x.changes.length (f i).2.2]) #[Str x.kind, Str x.s, I x.a, I x.b, I x.c, I x.d, Uw x.k, sl (f i).1.1 x.puts.length (f i).1.2, sl (f i).2.1 x.changes.length (f i).2.2] Try.sizeOf52 rfl rfl rfl rfl (by simp) (splice_all rfl)) ?_
                        rintro _ _ rfl
                        refine g_nil ?_
                        refine g_seq ?_
                        refine g_seq ?_
                        refine g_reg ?_
                        refine g_v (v_fieldAddr 0 Try.underlying52 rfl rfl Try.sizeOf9 (by decide) rfl) rfl ?_
                        refine g_v (v_load (v := Str x.kind) Try.isAgg9 rfl rfl) rfl ?_
                        refine g_v (v_sneq rfl rfl) rfl ?_
                        refine g_nil ?_
                        refine g_cond rfl (fun h194 => ?_) (fun h194 => ?_)
                        · skip
                          refine g_seq ?_
                          refine g_reg ?_
                          refine g_v (v_move rfl) rfl ?_
                          refine g_v (v_move rfl) rfl ?_
                          refine g_v (v_move rfl) rfl ?_
                          refine g_v (v_move rfl) rfl ?_
                          refine g_l (l_call (Pre := [dsk 184 187 b62 (D)]) Try.call68 rfl (ct_log_Open b62 D ((from_ : Int)) ((many : Int)) ((first : Int)) h80 ⟨by rw [hok.2.1]; omega, by omega⟩)) rfl ?_
                          rintro _ _ (⟨hbad', rfl, rfl⟩ | ⟨_, hdn, _, _⟩ | ⟨_, _, bl', gl', so', co', used', rfl, hul', hgl', hsc', rfl⟩)
                          · exfalso; unfold badO at hbad'; have := hok.2.1; omega
                          · rw [hup.1] at hdn; cases hdn
                          rw [show lgC b62 ((from_ : Nat) : Int).toNat ((many : Nat) : Int).toNat ((first : Nat) : Int).toNat used' = lgC b62 from_ many first used' from rfl]
                          replace hsc' : scanF first (secD D from_) many 0 [] [] 0 = (gl'.map (·.1), used') := hsc'
                          rw [hsc] at hsc'
                          obtain ⟨hg1, hus⟩ : gb.map (·.1) = gl'.map (·.1) ∧ used = used' := by injection hsc' with h1 h2; exact ⟨h1, h2⟩
                          subst hus
                          refine g_v (v_move rfl) rfl ?_
                          refine g_v (v_extract (v := ptr bl' 0) rfl rfl) rfl ?_
                          refine g_v (v_extract (v := sl so' gl'.length co') rfl rfl) rfl ?_
                          refine g_v (v_extract (v := errV 0) rfl rfl) rfl ?_
                          refine g_v (v_assign rfl) rfl ?_
                          refine g_v (v_assign rfl) rfl ?_
                          refine g_v (v_assign rfl) rfl ?_
                          refine g_nil ?_
                          refine g_seq ?_
                          refine g_seq ?_
                          refine g_reg ?_
                          refine g_v (v_move rfl) rfl ?_
                          refine g_v (v_ineq Try.underlying26 rfl) rfl ?_
                          refine g_v (v_move rfl) rfl ?_
                          refine g_gv1 rfl rfl rfl (v_move rfl) rfl ?_
                          refine g_gv1 rfl rfl rfl (v_pnil Try.underlying109 rfl) rfl ?_
                          refine g_v (v_or rfl rfl) rfl ?_
                          refine g_nil ?_
                          refine g_cond rfl (fun h209 => ?_) (fun h209 => ?_)
                          · simp at h209
                          · skip
                            refine g_skip ?_
                            refine g_exit rfl ?_
                            refine g_reg ?_
                            refine g_v (v_move rfl) rfl ?_
                            refine g_v (v_add (r := ((i + 1 : Nat) : Int)) rfl rfl (by rw [show ((i : Nat) : Int) + 1 = ((i + 1 : Nat) : Int) by omega]; exact w64 (by omega))) rfl ?_
                            refine g_v (v_assign rfl) rfl ?_
                            refine g_nil ?_
                            refine g_freeze (T := 50) (cap := co') so' ?_
                            refine g_again (⟨i + 1, D, gl', gb, used, bl', (so', co'), (sb, cb)⟩ : LGS) ⟨by simp; omega, okW_le hok (by simp; omega), hup, h80, hg1.symm, hsc, hul, by simp; omega, hln⟩ (by simp; omega) [1, 2, 3, 4, 13, 16, 17, 22, 23, 24] rfl rfl
                        · skip
                          refine g_skip ?_
                          refine g_seq ?_
                          refine g_reg ?_
                          refine g_v (v_assign rfl) rfl ?_
                          refine g_nil ?_
                          refine g_seq ?_
                          refine g_seq ?_
                          refine g_reg ?_
                          refine g_v (v_fieldAddr 8 Try.underlying52 rfl rfl Try.sizeOf50 (by decide) rfl) rfl ?_
                          refine g_v (v_load (v := sl (f i).2.1 x.changes.length (f i).2.2) Try.isAgg50 rfl rfl) rfl ?_
                          refine g_v (v_len Try.underlying50 rfl) rfl ?_
                          refine g_v (v_gtr rfl rfl) rfl ?_
                          refine g_nil ?_
                          refine g_cut (α := Int) (fun z => addV many used x.changes = (if z = 0 then fltC x.changes else z)) (fun z => U [(1, I from_), (2, I many), (3, I first), (4, sl s l.length cap), (13, ptr b62 0), (16, ptr bl 0), (17, sl sa ga.length ca), (22, sl sb gb.length cb), (23, I used), (24, I i), (25, ptr b25 0), (26, I z)]) (fun z => pt b25 (.cells #[Str x.kind, Str x.s, I x.a, I x.b, I x.c, I x.d, Uw x.k, sl (f i).1.1 x.puts.length (f i).1.2, sl (f i).2.1 x.changes.length (f i).2.2] 52 (0, 0)) :: pt (bl) (.cells (lgC b62 from_ many first (used)) 206 (0, 0)) :: roL 1 sa (dR ga) :: dees ga :: roL 1 sb (dR gb) :: dees gb :: dsk 184 187 b62 (D) :: acts s l f :: roL 1 sL (strR L) :: F) ?_ ?_
                          · skip
                            refine g_cond rfl (fun h213 => ?_) (fun h213 => ?_)
                            · simp at h213
                              refine g_reg ?_
                              refine g_v (v_assign rfl) rfl ?_
                              refine g_nil ?_
                              exact g_here 2 (by unfold addV; rw [if_pos (by omega)]; rfl) [1, 2, 3, 4, 13, 16, 17, 22, 23, 24, 25, 26] rfl rfl
                            · simp at h213
                              refine g_seq ?_
                              refine g_reg ?_
                              refine g_v (v_fieldAddr 8 Try.underlying52 rfl rfl Try.sizeOf50 (by decide) rfl) rfl ?_
                              refine g_v (v_load (v := sl (f i).2.1 x.changes.length (f i).2.2) Try.isAgg50 rfl rfl) rfl ?_
                              refine g_v (v_len Try.underlying50 rfl) rfl ?_
                              refine g_v (v_add (r := ((x.changes.length + 1 : Nat) : Int)) rfl rfl (by rw [show ((x.changes.length : Nat) : Int) + 1 = ((x.changes.length + 1 : Nat) : Int) by omega]; exact w64 (by omega))) rfl ?_
                              refine g_v (v_move rfl) rfl ?_
                              refine g_v (v_move rfl) rfl ?_
                              refine g_v (v_sub (r := ((many - used : Nat) : Int)) rfl rfl (by rw [show (many : Int) - (used : Int) = ((many - used : Nat) : Int) by omega]; exact w64 (by omega))) rfl ?_
                              refine g_v (v_gtr rfl rfl) rfl ?_
                              refine g_nil ?_
                              refine g_cond rfl (fun h221 => ?_) (fun h221 => ?_)
                              · simp at h221
                                refine g_reg ?_
                                refine g_v (v_assign rfl) rfl ?_
                                refine g_nil ?_
                                exact g_here 8 (by unfold addV; rw [if_neg (by omega), if_pos (by omega)]; rfl) [1, 2, 3, 4, 13, 16, 17, 22, 23, 24, 25, 26] rfl rfl
                              · simp at h221
                                refine g_skip ?_
                                exact g_here 0 (by unfold addV; rw [if_neg (by omega), if_neg (by omega)]; rfl) [1, 2, 3, 4, 13, 16, 17, 22, 23, 24, 25, 26] rfl rfl
                          rintro fz hfz
                          refine g_seq ?_
                          refine g_seq ?_
                          refine g_actChanges s l f i hx ?_
                          refine g_reg ?_
                          refine g_v (v_assign rfl) rfl ?_
                          refine g_nil ?_
                          refine g_block ?_
                          refine g_loop (α := Nat × Int) (fun z => z.1 ≤ x.changes.length ∧ addV many used x.changes = (if z.2 = 0 then fltC (x.changes.drop z.1) else z.2)) (fun z => U [(1, I from_), (2, I many), (3, I first), (4, sl s l.length cap), (13, ptr b62 0), (16, ptr bl 0), (17, sl sa ga.length ca), (22, sl sb gb.length cb), (23, I used), (24, I i), (25, ptr b25 0), (26, I z.2), (27, I z.1)]) (fun z => pt b25 (.cells #[Str x.kind, Str x.s, I x.a, I x.b, I x.c, I x.d, Uw x.k, sl (f i).1.1 x.puts.length (f i).1.2, sl (f i).2.1 x.changes.length (f i).2.2] 52 (0, 0)) :: roL 3 (f i).2.1 (chR x.changes) :: pt (bl) (.cells (lgC b62 from_ many first (used)) 206 (0, 0)) :: roL 1 sa (dR ga) :: dees ga :: roL 1 sb (dR gb) :: dees gb :: dsk 184 187 b62 (D) :: acts s l f :: roL 1 sL (strR L) :: F) (fun z => x.changes.length - z.1) (0, fz) ⟨by simp, hfz⟩ [1, 2, 3, 4, 13, 16, 17, 22, 23, 24, 25, 26, 27] rfl rfl ?_
                          rintro ⟨k, fz⟩ ⟨hkc, hfz⟩
                          simp only [] at hkc hfz ⊢
                          refine g_seq ?_
                          refine g_seq ?_
                          refine g_reg ?_
                          refine g_v (v_move rfl) rfl ?_
                          refine g_v (v_fieldAddr 8 Try.underlying52 rfl rfl Try.sizeOf50 (by decide) rfl) rfl ?_
                          refine g_v (v_load (v := sl (f i).2.1 x.changes.length (f i).2.2) Try.isAgg50 rfl rfl) rfl ?_
                          refine g_v (v_len Try.underlying50 rfl) rfl ?_
                          refine g_v (v_lss rfl rfl) rfl ?_
                          refine g_v (v_move rfl) rfl ?_
                          refine g_gv rfl rfl (fun hg => v_move rfl) rfl rfl ?_
                          refine g_gv rfl rfl (fun hg => v_eql rfl rfl) rfl rfl ?_
                          refine g_v (v_and rfl rfl) rfl ?_
                          refine g_nil ?_
                          refine g_cond rfl (fun h230 => ?_) (fun h230 => ?_)
                          · simp at h230
                            have hkc' : k < x.changes.length := by omega
                            obtain ⟨c, hc⟩ : ∃ c, x.changes[k]? = some c := ⟨_, List.getElem?_eq_getElem hkc'⟩
                            have hkcr : k < (chR x.changes).length := by rw [chR_len]; exact hkc'
                            refine g_skip ?_
                            refine g_seq ?_
                            refine g_block ?_
                            refine g_reg ?_
                            refine g_v (v_fieldAddr 8 Try.underlying52 rfl rfl Try.sizeOf50 (by decide) rfl) rfl ?_
                            refine g_v (v_load (v := sl (f i).2.1 x.changes.length (f i).2.2) Try.isAgg50 rfl rfl) rfl ?_
                            refine g_v (v_move rfl) rfl ?_
                            refine g_v (v_idxS k Try.underlying50 Try.sizeOf95 rfl rfl rfl hkc' hkcr) rfl ?_
                            refine g_v (v_loadAS (row := encC c) Try.isAgg95 Try.sizeOf95 rfl (chR_at hc) rfl) rfl ?_
                            refine g_l (l_call (Pre := []) Try.call62 rfl (ct_R_ChangeFault c)) rfl ?_
                            rintro _ _ ⟨rfl, rfl⟩
                            refine g_v (v_assign rfl) rfl ?_
                            refine g_nil ?_
                            refine g_blk ?_
                            refine g_reg ?_
                            refine g_v (v_move rfl) rfl ?_
                            refine g_v (v_add (r := ((k + 1 : Nat) : Int)) rfl rfl (by rw [show ((k : Nat) : Int) + 1 = ((k + 1 : Nat) : Int) by omega]; exact w64 (by omega))) rfl ?_
                            refine g_v (v_assign rfl) rfl ?_
                            refine g_nil ?_
                            refine g_again (k + 1, chkC c) ⟨by simp; omega, ?_⟩ (by simp; omega) [1, 2, 3, 4, 13, 16, 17, 22, 23, 24, 25, 26, 27] rfl rfl
                            simp only []
                            rw [hfz, if_pos h230.2, flt_drop hc]
                          · simp at h230
                            replace hfz : addV many used x.changes = fz := by
                                rw [hfz]
                                split
                                · rename_i h0
                                  have hke : ¬ k < x.changes.length := fun h => h230 (by omega) h0
                                  rw [List.drop_of_length_le (by omega), h0]; rfl
                                · rfl
                            refine g_exit rfl ?_
                            refine g_seq ?_
                            refine g_seq ?_
                            refine g_reg ?_
                            refine g_v (v_move rfl) rfl ?_
                            refine g_v (v_fieldAddr 8 Try.underlying52 rfl rfl Try.sizeOf50 (by decide) rfl) rfl ?_
                            refine g_v (v_load (v := sl (f i).2.1 x.changes.length (f i).2.2) Try.isAgg50 rfl rfl) rfl ?_
                            refine g_l (l_call (Pre := [pt (bl) (.cells (lgC b62 from_ many first (used)) 206 (0, 0)), dsk 184 187 b62 (D), roL 3 (f i).2.1 (chR x.changes)]) Try.call73 rfl (ct_log_Add bl b62 from_ many first used x.changes (f i).2.1 (f i).2.2 N (40 + 300 * i) D hok ⟨by omega, by omega⟩ ⟨by omega, by omega, by omega, hul⟩ (hla x (List.mem_of_getElem? hx)).2)) rfl ?_
                            rintro _ _ ⟨rfl, rfl⟩
                            have hE : addE from_ many first used x.changes D = fz := by
                              by_cases h0 : fz = 0
                              · rw [h0] at hfz ⊢; exact (add_up hup h80 (by have := hok.2.1; omega) hfz hsc).1
                              · exact (add_badV hfz h0).1
                            rw [hE]
                            refine g_v (v_move rfl) rfl ?_
                            refine g_l (l_call (Pre := []) Try.call14 rfl (ct_L_same (fz) (fz) (by rw [← hfz]; exact addV_nn _ _ _))) rfl ?_
                            rintro _ _ ⟨rfl, rfl⟩
                            rw [decide_eq_true (rfl : fz = fz)]
                            refine g_v (v_not rfl) rfl ?_
                            refine g_nil ?_
                            refine g_cond rfl (fun h245 => ?_) (fun h245 => ?_)
                            · simp at h245
                            · skip
                              refine g_skip ?_
                              refine g_seq ?_
                              refine g_reg ?_
                              refine g_v (v_move rfl) rfl ?_
                              refine g_v (v_eql rfl rfl) rfl ?_
                              refine g_nil ?_
                              refine g_cond rfl (fun h247 => ?_) (fun h247 => ?_)
                              · have h0 : fz = 0 := by simpa using h247
                                subst h0
                                obtain ⟨hv1, hv2, hv3⟩ := addV_ok hfz
                                obtain ⟨hae, ha2, ha3, ha4, ha5⟩ := add_up hup h80 (by have := hok.2.1; omega) hfz hsc
                                rw [show addU from_ many first used x.changes D = used + x.changes.length + 1 by unfold addU; rw [if_pos hae]]
                                refine g_seq ?_
                                refine g_nilown 50 1 (dR []) rfl ?_
                                refine g_drawT (Lf := [pt b25 (.cells #[Str x.kind, Str x.s, I x.a, I x.b, I x.c, I x.d, Uw x.k, sl (f i).1.1 x.puts.length (f i).1.2, sl (f i).2.1 x.changes.length (f i).2.2] 52 (0, 0))]) (.q 0 (.q 2 (.q 3 (.alt (.l 1 (.l 4 (.l 5 (.q 6 (.nil))))) (.l 4 (.l 1 (.l 5 (.q 6 (.nil))))))))) (by kernel_rfl) (by kernel_rfl) (by kernel_rfl) ?_
                                refine t_v rfl (v_move rfl) rfl ?_
                                refine t_v rfl (v_fieldAddr 8 Try.underlying52 rfl rfl Try.sizeOf50 (by decide) rfl) rfl ?_
                                refine t_v rfl (v_load (v := sl (f i).2.1 x.changes.length (f i).2.2) Try.isAgg50 rfl rfl) rfl ?_
                                refine t_alt ?_ ?_
                                · skip
                                  refine t_l rfl (l_append Try.underlying110 Try.sizeOf50 Try.zeroValue50 rfl Try.typeInfo50 (by decide) rfl rfl rfl (dR_len _) dR_one dR_ones ⟨by omega, by decide, by decide⟩) rfl ?_
                                  rintro _ _ ⟨s249, c249, rfl, rfl⟩
                                  rw [Nat.zero_add, show dR [] ++ dR gb = dR gb from rfl]
                                  refine t_l rfl (l_buildSlice [[sl (f i).2.1 x.changes.length (f i).2.2]] Try.underlying110 Try.sizeOf50 Try.zeroValue50 rfl rfl rfl (by simp) (by decide) (by decide)) rfl ?_
                                  rintro _ _ ⟨b252, rfl, rfl⟩
                                  refine t_l rfl (l_append Try.underlying110 Try.sizeOf50 Try.zeroValue50 rfl Try.typeInfo50 (by decide) rfl rfl (dR_len _) rfl (by simp) (by simp [ones, one, sl]) ⟨by omega, by decide, by decide⟩) rfl ?_
                                  rintro _ _ ⟨s253, c253, rfl, rfl⟩
                                  rw [dR_snoc, show gb.length + 1 = (gb ++ [(x.changes, ((f i).2.1, (f i).2.2))]).length by simp]
                                  refine t_v rfl (v_assign rfl) rfl ?_
                                  refine t_nil ?_
                                  refine g_seq ?_
                                  refine g_reg ?_
                                  refine g_v (v_move rfl) rfl ?_
                                  refine g_v (v_fieldAddr 8 Try.underlying52 rfl rfl Try.sizeOf50 (by decide) rfl) rfl ?_
                                  refine g_v (v_load (v := sl (f i).2.1 x.changes.length (f i).2.2) Try.isAgg50 rfl rfl) rfl ?_
                                  refine g_v (v_len Try.underlying50 rfl) rfl ?_
                                  refine g_v (v_add (r := ((used + x.changes.length : Nat) : Int)) rfl rfl (by rw [show ((used : Nat) : Int) + ((x.changes.length : Nat) : Int) = ((used + x.changes.length : Nat) : Int) by omega]; exact w64 (by omega))) rfl ?_
                                  refine g_v (v_add (r := (((used + x.changes.length) + 1 : Nat) : Int)) rfl rfl (by rw [show (((used + x.changes.length) : Nat) : Int) + 1 = (((used + x.changes.length) + 1 : Nat) : Int) by omega]; exact w64 (by omega))) rfl ?_
                                  refine g_v (v_assign rfl) rfl ?_
                                  refine g_nil ?_
                                  refine g_reg ?_
                                  refine g_v (v_move rfl) rfl ?_
                                  refine g_v (v_assign rfl) rfl ?_
                                  refine g_nil ?_
                                  refine g_blk ?_
                                  refine g_reg ?_
                                  refine g_v (v_move rfl) rfl ?_
                                  refine g_v (v_add (r := ((i + 1 : Nat) : Int)) rfl rfl (by rw [show ((i : Nat) : Int) + 1 = ((i + 1 : Nat) : Int) by omega]; exact w64 (by omega))) rfl ?_
                                  refine g_v (v_assign rfl) rfl ?_
                                  refine g_nil ?_
                                  refine g_freeze (T := 50) (cap := c253) s253 ?_
                                  refine g_roDup (sz := 1) s253 (dR (gb ++ [(x.changes, ((f i).2.1, (f i).2.2))])) ?_
                                  refine g_deesApp gb x.changes (f i).2.1 (f i).2.2 ?_
                                  refine g_deesDup (gb ++ [(x.changes, ((f i).2.1, (f i).2.2))]) ?_
                                  refine g_again (⟨i + 1, addD from_ many first used x.changes D, gb ++ [(x.changes, ((f i).2.1, (f i).2.2))], gb ++ [(x.changes, ((f i).2.1, (f i).2.2))], used + x.changes.length + 1, bl, (s253, c253), (s253, c253)⟩ : LGS) ⟨by simp; omega, okW_le (okW_add hok _ _ _ _ _) (by simp; omega), ha2, ha3, rfl, ?_, by simp; omega, by simp; omega, ?_⟩ (by simp; omega) [1, 2, 3, 4, 13, 16, 17, 22, 23, 24] rfl rfl
                                  · simp only []
                                    rw [map_snoc]
                                    exact ha5
                                  · simp only []
                                    rw [map_snoc]
                                    intro d hd
                                    rcases List.mem_append.1 hd with hd | hd
                                    · exact hln d hd
                                    · rw [List.mem_singleton] at hd; subst hd; omega
                                · skip
                                  refine t_l rfl (l_buildSlice [[sl (f i).2.1 x.changes.length (f i).2.2]] Try.underlying110 Try.sizeOf50 Try.zeroValue50 rfl rfl rfl (by simp) (by decide) (by decide)) rfl ?_
                                  rintro _ _ ⟨b252, rfl, rfl⟩
                                  refine t_l rfl (l_append Try.underlying110 Try.sizeOf50 Try.zeroValue50 rfl Try.typeInfo50 (by decide) rfl rfl rfl (dR_len _) dR_one dR_ones ⟨by omega, by decide, by decide⟩) rfl ?_
                                  rintro _ _ ⟨s249, c249, rfl, rfl⟩
                                  rw [Nat.zero_add, show dR [] ++ dR gb = dR gb from rfl]
                                  refine t_l rfl (l_append Try.underlying110 Try.sizeOf50 Try.zeroValue50 rfl Try.typeInfo50 (by decide) rfl rfl (dR_len _) rfl (by simp) (by simp [ones, one, sl]) ⟨by omega, by decide, by decide⟩) rfl ?_
                                  rintro _ _ ⟨s253, c253, rfl, rfl⟩
                                  rw [dR_snoc, show gb.length + 1 = (gb ++ [(x.changes, ((f i).2.1, (f i).2.2))]).length by simp]
                                  refine t_v rfl (v_assign rfl) rfl ?_
                                  refine t_nil ?_
                                  refine g_seq ?_
                                  refine g_reg ?_
                                  refine g_v (v_move rfl) rfl ?_
                                  refine g_v (v_fieldAddr 8 Try.underlying52 rfl rfl Try.sizeOf50 (by decide) rfl) rfl ?_
                                  refine g_v (v_load (v := sl (f i).2.1 x.changes.length (f i).2.2) Try.isAgg50 rfl rfl) rfl ?_
                                  refine g_v (v_len Try.underlying50 rfl) rfl ?_
                                  refine g_v (v_add (r := ((used + x.changes.length : Nat) : Int)) rfl rfl (by rw [show ((used : Nat) : Int) + ((x.changes.length : Nat) : Int) = ((used + x.changes.length : Nat) : Int) by omega]; exact w64 (by omega))) rfl ?_
                                  refine g_v (v_add (r := (((used + x.changes.length) + 1 : Nat) : Int)) rfl rfl (by rw [show (((used + x.changes.length) : Nat) : Int) + 1 = (((used + x.changes.length) + 1 : Nat) : Int) by omega]; exact w64 (by omega))) rfl ?_
                                  refine g_v (v_assign rfl) rfl ?_
                                  refine g_nil ?_
                                  refine g_reg ?_
                                  refine g_v (v_move rfl) rfl ?_
                                  refine g_v (v_assign rfl) rfl ?_
                                  refine g_nil ?_
                                  refine g_blk ?_
                                  refine g_reg ?_
                                  refine g_v (v_move rfl) rfl ?_
                                  refine g_v (v_add (r := ((i + 1 : Nat) : Int)) rfl rfl (by rw [show ((i : Nat) : Int) + 1 = ((i + 1 : Nat) : Int) by omega]; exact w64 (by omega))) rfl ?_
                                  refine g_v (v_assign rfl) rfl ?_
                                  refine g_nil ?_
                                  refine g_freeze (T := 50) (cap := c253) s253 ?_
                                  refine g_roDup (sz := 1) s253 (dR (gb ++ [(x.changes, ((f i).2.1, (f i).2.2))])) ?_
                                  refine g_deesApp gb x.changes (f i).2.1 (f i).2.2 ?_
                                  refine g_deesDup (gb ++ [(x.changes, ((f i).2.1, (f i).2.2))]) ?_
                                  refine g_again (⟨i + 1, addD from_ many first used x.changes D, gb ++ [(x.changes, ((f i).2.1, (f i).2.2))], gb ++ [(x.changes, ((f i).2.1, (f i).2.2))], used + x.changes.length + 1, bl, (s253, c253), (s253, c253)⟩ : LGS) ⟨by simp; omega, okW_le (okW_add hok _ _ _ _ _) (by simp; omega), ha2, ha3, rfl, ?_, by simp; omega, by simp; omega, ?_⟩ (by simp; omega) [1, 2, 3, 4, 13, 16, 17, 22, 23, 24] rfl rfl
                                  · simp only []
                                    rw [map_snoc]
                                    exact ha5
                                  · simp only []
                                    rw [map_snoc]
                                    intro d hd
                                    rcases List.mem_append.1 hd with hd | hd
                                    · exact hln d hd
                                    · rw [List.mem_singleton] at hd; subst hd; omega
                              · have h0 : ¬ fz = 0 := by simpa using h247
                                obtain ⟨_, had, hau⟩ := add_badV (from_ := from_) (first := first) (D := D) hfz h0
                                rw [had, hau]
                                refine g_skip ?_
                                refine g_blk ?_
                                refine g_reg ?_
                                refine g_v (v_move rfl) rfl ?_
                                refine g_v (v_add (r := ((i + 1 : Nat) : Int)) rfl rfl (by rw [show ((i : Nat) : Int) + 1 = ((i + 1 : Nat) : Int) by omega]; exact w64 (by omega))) rfl ?_
                                refine g_v (v_assign rfl) rfl ?_
                                refine g_nil ?_
                                refine g_again (⟨i + 1, D, ga, gb, used, bl, (sa, ca), (sb, cb)⟩ : LGS) ⟨by simp; omega, okW_le hok (by simp; omega), hup, h80, hds, hsc, hul, by simp; omega, hln⟩ (by simp; omega) [1, 2, 3, 4, 13, 16, 17, 22, 23, 24] rfl rfl
                  · exfalso
                    simp at h161
                    omega
          · skip
            refine g_v (v_move rfl) rfl ?_
            refine g_v (v_extract (v := .pointer none) rfl rfl) rfl ?_
            refine g_v (v_extract (v := sl none 0 0) rfl rfl) rfl ?_
            refine g_v (v_extract (v := errV 1) rfl rfl) rfl ?_
            refine g_v (v_assign rfl) rfl ?_
            refine g_v (v_assign rfl) rfl ?_
            refine g_v (v_assign rfl) rfl ?_
            refine g_nil ?_
            refine g_seq ?_
            refine g_seq ?_
            refine g_reg ?_
            refine g_v (v_move rfl) rfl ?_
            refine g_v (v_lss rfl rfl) rfl ?_
            refine g_v (v_move rfl) rfl ?_
            refine g_gv rfl rfl (fun hg => v_move rfl) rfl rfl ?_
            refine g_gv rfl rfl (fun hg => v_lss rfl rfl) rfl rfl ?_
            refine g_v (v_or rfl rfl) rfl ?_
            refine g_v (v_move rfl) rfl ?_
            refine g_gv rfl rfl (fun hg => v_move rfl) rfl rfl ?_
            refine g_gv rfl rfl (fun hg => v_move rfl) rfl rfl ?_
            refine g_gq rfl rfl (fun hg => l_call (Pre := [dsk 184 187 b62 (D)]) (R := fun F => R1 (I ((D).now.length : Int)) (dsk 184 187 b62 (D) :: F)) Try.call31 rfl (ct_disk_Sectors b62 (D))) rfl rfl ?_
            refine g_gv rfl rfl (fun hg => v_gtr rfl rfl) rfl rfl ?_
            refine g_v (v_or rfl rfl) rfl ?_
            refine g_v (v_move rfl) rfl ?_
            refine g_gv rfl rfl (fun hg => v_move rfl) rfl rfl ?_
            refine g_gv rfl rfl (fun hg => v_move rfl) rfl rfl ?_
            refine g_gq rfl rfl (fun hg => l_call (Pre := [dsk 184 187 b62 (D)]) (R := fun F => R1 (I ((D).now.length : Int)) (dsk 184 187 b62 (D) :: F)) Try.call31 rfl (ct_disk_Sectors b62 (D))) rfl rfl ?_
            refine g_gv rfl rfl (fun hg => v_move rfl) rfl rfl ?_
            refine g_gv rfl rfl (fun hg => v_sub (r := (D.now.length : Int) - many) rfl rfl (w64 (by have := hok.2.1; simp at hg; omega))) rfl rfl ?_
            refine g_gv rfl rfl (fun hg => v_gtr rfl rfl) rfl rfl ?_
            refine g_v (v_or rfl rfl) rfl ?_
            refine g_v (v_move rfl) rfl ?_
            refine g_gv rfl rfl (fun hg => v_move rfl) rfl rfl ?_
            refine g_gv rfl rfl (fun hg => v_lss rfl rfl) rfl rfl ?_
            refine g_v (v_or rfl rfl) rfl ?_
            refine g_nil ?_
            refine g_cond rfl (fun h117 => ?_) (fun h117 => ?_)
            · skip
              refine g_seq ?_
              refine g_reg ?_
              refine g_v (v_move rfl) rfl ?_
              refine g_l (l_call (Pre := []) Try.call14 rfl (ct_L_same (1) (1) (by decide))) rfl ?_
              rintro _ _ ⟨rfl, rfl⟩
              rw [show decide ((1 : Int) = 1) = true from rfl]
              refine g_v (v_move rfl) rfl ?_
              refine g_gv1 rfl rfl rfl (v_move rfl) rfl ?_
              refine g_gv1 rfl rfl rfl (v_pnil Try.underlying109 rfl) rfl ?_
              refine g_v (v_and rfl rfl) rfl ?_
              refine g_v (v_move rfl) rfl ?_
              refine g_gv1 rfl rfl rfl (v_move rfl) rfl ?_
              refine g_gv1 rfl rfl rfl (v_len Try.underlying110 rfl) rfl ?_
              refine g_gv1 rfl rfl rfl (v_eql rfl rfl) rfl ?_
              refine g_v (v_and rfl rfl) rfl ?_
              refine g_v (v_assign rfl) rfl ?_
              refine g_nil ?_
              refine g_ret1 rfl rfl ?_
              show Bo _ = Bo true
              simp
            · exfalso
              unfold badO at hbad
              simp at h117
              omega

end Go.Proofs.Ythdjckbjjfiopaa
