/- The walk through the law DiskSays. No condition. -/
import Derived.Test.YthdjckbjjfiopaaDiskLaw
import Derived.Test.YthdjckbjjfiopaaLight2
import Derived.Test.YthdjckbjjfiopaaSl17
namespace Go.Proofs.Ythdjckbjjfiopaa
open Go.Sl Go.Proofs
set_option linter.unusedVariables false
set_option linter.unusedSimpArgs false
/-- what is known of a disk of N sectors after i actions -/
def okS (N i : Nat) (D : DiskM) : Prop := D.kept.length = N ∧ D.now.length = N ∧ (-1 ≤ D.fuse ∧ D.fuse ≤ 9223372036854775807) ∧ (∀ t ∈ D.wait, t.1 < N) ∧ D.wait.length ≤ i
theorem okS_new (N : Nat) : okS N 0 (newD N) := ⟨by simp [newD], by simp [newD], by simp [newD], by simp [newD], by simp [newD]⟩
theorem okS_mono {N i : Nat} {D : DiskM} (h : okS N i D) : okS N (i + 1) D := ⟨h.1, h.2.1, h.2.2.1, h.2.2.2.1, by have := h.2.2.2.2; omega⟩
theorem okS_step {N i : Nat} {D : DiskM} (h : okS N i D) : okS N i (stepD D) := by
  obtain ⟨h1, h2, h3, h4, h5⟩ := h
  unfold stepD
  split
  · exact ⟨h1, h2, h3, h4, h5⟩
  · split
    · exact ⟨h1, h2, by simp, h4, h5⟩
    · refine ⟨h1, h2, ?_, h4, h5⟩
      simp only
      split <;> omega
theorem okS_write {N i : Nat} {D : DiskM} (h : okS N i D) (n : Int) (s : Bytes) : okS N (i + 1) (writeD D n s) := by
  unfold writeD
  split
  · exact okS_mono h
  · rename_i hb
    split
    · obtain ⟨h1, h2, h3, h4, h5⟩ := okS_step h
      refine ⟨h1, by simp [wroteD, h2], h3, fun t ht => ?_, by simp [wroteD]; exact h5⟩
      simp only [wroteD, List.mem_append, List.mem_singleton] at ht
      rcases ht with ht | rfl
      · exact h4 t ht
      · have := h.2.1
        unfold badW at hb
        simp only
        omega
    · exact okS_mono (okS_step h)
theorem okS_flush {N i : Nat} {D : DiskM} (h : okS N i D) : okS N (i + 1) (flushD D) := by
  unfold flushD
  split
  · obtain ⟨h1, h2, h3, h4, h5⟩ := okS_step h
    exact ⟨h2, h2, h3, by simp [flushedD], by simp [flushedD]⟩
  · exact okS_mono (okS_step h)
theorem okS_arm {N i : Nat} {D : DiskM} (h : okS N i D) {a : Int} (ha : a ≤ 9223372036854775807) : okS N (i + 1) ⟨D.kept, D.now, D.wait, if a < -1 then -1 else a, D.down⟩ := by
  obtain ⟨h1, h2, h3, h4, h5⟩ := okS_mono h
  refine ⟨h1, h2, ?_, h4, h5⟩
  simp only
  split <;> omega
theorem okS_rest {N i : Nat} {D : DiskM} (h : okS N i D) (keep : Int) : okS N (i + 1) (restD keep D) :=
  ⟨by simp [restD, restL, restK_len, h.1], by simp [restD, restL, restK_len, h.1], by simp [restD], by simp [restD], by simp [restD]⟩
section
variable {c : Cx} {E : Env} {L : List HProp} {K : List KI}
theorem g_openD {F : List HProp} (T TT b : Nat) (D : DiskM) [R : Rem L (dsk T TT b D) F] (k : ∀ s1 c1 s2 c2 s3 c3, G c K E (pt b (.cells #[sl s1 D.kept.length c1, sl s2 D.now.length c2, sl s3 D.wait.length c3, I D.fuse, Bo D.down] T (0, 0)) :: owL 9 1 s1 c1 (strR D.kept) :: owL 9 1 s2 c2 (strR D.now) :: owL TT 2 s3 c3 (turnR D.wait) :: F)) : G c K E L :=
  g_open (dsk T TT b D) rfl fun z => k z.1.1 z.1.2 z.2.1.1 z.2.1.2 z.2.2.1 z.2.2.2
theorem g_shutD {F : List HProp} {s1 s2 s3 : Option Addr} {c1 c2 c3 : Nat} (T TT b : Nat) (D : DiskM) [S : Split L [pt b (.cells #[sl s1 D.kept.length c1, sl s2 D.now.length c2, sl s3 D.wait.length c3, I D.fuse, Bo D.down] T (0, 0)), owL 9 1 s1 c1 (strR D.kept), owL 9 1 s2 c2 (strR D.now), owL TT 2 s3 c3 (turnR D.wait)] F] (k : G c K E (dsk T TT b D :: F)) : G c K E L :=
  g_pack (A := dskP T TT b D) [pt b (.cells #[sl s1 D.kept.length c1, sl s2 D.now.length c2, sl s3 D.wait.length c3, I D.fuse, Bo D.down] T (0, 0)), owL 9 1 s1 c1 (strR D.kept), owL 9 1 s2 c2 (strR D.now), owL TT 2 s3 c3 (turnR D.wait)] (dsk T TT b D) ((s1, c1), (s2, c2), (s3, c3)) rfl rfl k
end
theorem stepE_nn (D : DiskM) : 0 ≤ stepE D := by unfold stepE; split <;> omega
theorem writeE_nn (D : DiskM) (n : Int) (s : Bytes) : 0 ≤ writeE D n s := by unfold writeE; split; omega; exact stepE_nn D
theorem readE_nn (D : DiskM) (n : Int) : 0 ≤ (readV D n).2 := by unfold readV; split; simp; split <;> simp
def actOk (x : ActM) : Prop := (x.puts.length ≤ 9223372036854775807 ∧ x.changes.length ≤ 9223372036854775807) ∧ (-9223372036854775808 ≤ x.a ∧ x.a ≤ 9223372036854775807) ∧ (0 ≤ x.k ∧ x.k < 18446744073709551616)
theorem same_self (a b : Int) : (decide (a = a) && decide (b = b)) = true := by simp
theorem same_self' (a : Bytes) (b : Int) : (decide (a = a) && decide (b = b)) = true := by simp

theorem ct_L_DiskSays (n : Int) (l : List ActM) (f : Nat → ActZ) (s : Option Addr) (cap : Nat) (hn : ok64 n) (hl : l.length ≤ 9223372036854775807) (hla : ∀ x ∈ l, actOk x) (F : List HProp) : Ct Try.prog 4 [I n, sl s l.length cap] ([acts s l f] ++ F) (R1 (Bo true) (acts s l f :: F)) := by
  show Ct Try.prog 4 [I n, sl s l.length cap] (acts s l f :: F) _
  refine Ct.of Try.func4 rfl 177 Try.ntmps4 (by simp) fun w0 => ?_
  refine g_seq ?_
  refine g_reg ?_
  refine g_v (v_assign rfl) rfl ?_
  refine g_nil ?_
  refine g_seq ?_
  refine g_reg ?_
  refine g_l (l_call (Pre := []) Try.call27 rfl (ct_L_spins)) rfl ?_
  rintro _ _ ⟨rfl, rfl⟩
  refine g_v (v_assign rfl) rfl ?_
  refine g_nil ?_
  refine g_seq ?_
  refine g_seq ?_
  refine g_reg ?_
  refine g_v (v_move rfl) rfl ?_
  refine g_v (v_not rfl) rfl ?_
  refine g_v (v_move rfl) rfl ?_
  refine g_gv1 rfl rfl rfl (v_move rfl) rfl ?_
  refine g_gl rfl rfl rfl (l_call (Pre := [acts s l f]) Try.call28 rfl (ct_L_LightActs l f s cap 80 hl (fun x hx => (hla x hx).1))) rfl ?_
  rintro _ _ ⟨rfl, rfl⟩
  refine g_gv1 rfl rfl rfl (v_not rfl) rfl ?_
  refine g_v (v_or rfl rfl) rfl ?_
  refine g_nil ?_
  refine g_cond rfl (fun h29 => ?_) (fun h29 => ?_)
  · skip
    refine g_seq ?_
    refine g_reg ?_
    refine g_v (v_move rfl) rfl ?_
    refine g_v (v_assign rfl) rfl ?_
    refine g_nil ?_
    refine g_ret1 rfl rfl ?_
    exact rfl
  · simp at h29
    have hll : l.length ≤ 80 := by unfold lightA at h29; simp at h29; omega
    refine g_skip ?_
    refine g_seq ?_
    refine g_reg ?_
    refine g_v (v_move rfl) rfl ?_
    by_cases hns : 1 ≤ n ∧ n ≤ 260
    · skip
      refine g_l (l_call (Pre := []) Try.call29 rfl (ct_disk_New n)) rfl ?_
      rintro _ _ (⟨hno, _, _⟩ | ⟨_, b33, rfl, rfl⟩)
      · exact absurd hns hno
      refine g_v (v_move rfl) rfl ?_
      refine g_v (v_extract (v := ptr b33 0) rfl rfl) rfl ?_
      refine g_v (v_extract (v := errV 0) rfl rfl) rfl ?_
      refine g_v (v_assign rfl) rfl ?_
      refine g_v (v_assign rfl) rfl ?_
      refine g_nil ?_
      refine g_seq ?_
      refine g_reg ?_
      refine g_v (v_move rfl) rfl ?_
      refine g_l (l_call (Pre := []) Try.call30 rfl (ct_R_NewDisk n)) rfl ?_
      rintro _ _ (⟨hno, _, _⟩ | ⟨_, b38, rfl, rfl⟩)
      · exact absurd hns hno
      refine g_v (v_move rfl) rfl ?_
      refine g_v (v_extract (v := ptr b38 0) rfl rfl) rfl ?_
      refine g_v (v_extract (v := I 0) rfl rfl) rfl ?_
      refine g_v (v_assign rfl) rfl ?_
      refine g_v (v_assign rfl) rfl ?_
      refine g_nil ?_
      refine g_seq ?_
      refine g_seq ?_
      refine g_reg ?_
      refine g_v (v_move rfl) rfl ?_
      refine g_v (v_gtr rfl rfl) rfl ?_
      refine g_nil ?_
      refine g_cond rfl (fun h42 => ?_) (fun h42 => ?_)
      · simp at h42
      · skip
        refine g_skip ?_
        refine g_seq ?_
        refine g_seq ?_
        refine g_reg ?_
        refine g_v (v_move rfl) rfl ?_
        refine g_v (v_ineq Try.underlying26 rfl) rfl ?_
        refine g_v (v_move rfl) rfl ?_
        refine g_gv1 rfl rfl rfl (v_move rfl) rfl ?_
        refine g_gv1 rfl rfl rfl (v_pnil Try.underlying41 rfl) rfl ?_
        refine g_v (v_or rfl rfl) rfl ?_
        refine g_v (v_move rfl) rfl ?_
        refine g_gv1 rfl rfl rfl (v_move rfl) rfl ?_
        refine g_gl rfl rfl rfl (l_call (Pre := [dsk 184 187 b33 (newD n.toNat)]) Try.call31 rfl (ct_disk_Sectors b33 (newD n.toNat))) rfl ?_
        rintro _ _ ⟨rfl, rfl⟩
        refine g_gv1 rfl rfl rfl (v_move rfl) rfl ?_
        refine g_gv1 rfl rfl rfl (v_neq rfl rfl) rfl ?_
        refine g_v (v_or rfl rfl) rfl ?_
        refine g_nil ?_
        refine g_cond rfl (fun h61 => ?_) (fun h61 => ?_)
        · exfalso
          simp [newD] at h61
          omega
        · skip
          refine g_skip ?_
          refine g_seq ?_
          refine g_seq ?_
          refine g_reg ?_
          refine g_v (v_assign rfl) rfl ?_
          refine g_nil ?_
          refine g_block ?_
          refine g_loop (α := Nat × DiskM) (fun z => z.1 ≤ l.length ∧ okS n.toNat z.1 z.2) (fun z => U [(0, I n), (1, sl s l.length cap), (6, ptr b33 0), (8, ptr b38 0), (10, I z.1)]) (fun z => dsk 184 187 b33 (z.2) :: dsk 64 188 b38 (z.2) :: acts s l f :: F) (fun z => l.length - z.1) (0, newD n.toNat) ⟨by simp, okS_new _⟩ [0, 1, 6, 8, 10] rfl rfl ?_
          rintro ⟨i, D⟩ ⟨hi, hok⟩
          simp only [] at hi hok ⊢
          refine g_seq ?_
          refine g_seq ?_
          refine g_reg ?_
          refine g_v (v_move rfl) rfl ?_
          refine g_v (v_move rfl) rfl ?_
          refine g_v (v_len Try.underlying39 rfl) rfl ?_
          refine g_v (v_lss rfl rfl) rfl ?_
          refine g_nil ?_
          refine g_cond rfl (fun h65 => ?_) (fun h65 => ?_)
          · simp at h65
            have hkn : i < l.length := by omega
            obtain ⟨x, hx⟩ : ∃ x, l[i]? = some x := ⟨_, List.getElem?_eq_getElem hkn⟩
            have hkr : i < (actR l f).length := by rw [actR_len]; exact hkn
            obtain ⟨hx1, hx2, hx3⟩ := hla x (List.mem_of_getElem? hx)
            have hf := hok.2.2.1
            have hw : D.wait.length ≤ 1000000 := by have := hok.2.2.2.2; omega
            have hkk : D.kept.length = D.now.length := by rw [hok.1, hok.2.1]
            have hnow : D.now.length ≤ 1000000 := by rw [hok.2.1]; omega
            have hwt : ∀ t ∈ D.wait, t.1 < D.now.length := fun t ht => by rw [hok.2.1]; exact hok.2.2.2.1 t ht
            refine g_skip ?_
            refine g_seq ?_
            refine g_block ?_
            refine g_seq ?_
            refine g_reg ?_
            refine g_v (v_move rfl) rfl ?_
            refine g_v (v_move rfl) rfl ?_
            refine g_v (v_idxS i Try.underlying39 Try.sizeOf52 rfl rfl rfl hkn hkr) rfl ?_
            refine g_v (v_loadAS (row := [Str x.kind, Str x.s, I x.a, I x.b, I x.c, I x.d, Uw x.k, sl (f i).1.1 x.puts.length (f i).1.2, sl (f i).2.1 x.changes.length (f i).2.2]) Try.isAgg52 Try.sizeOf52 rfl (actR_at hx) rfl) rfl ?_
            refine g_l (l_alloc #[Str [], Str [], I 0, I 0, I 0, I 0, .int .u64 0, sl none 0 0, sl none 0 0] Try.zeroValue52) rfl ?_
            rintro _ _ ⟨b11, rfl, rfl⟩
            refine g_l0 (l_storeA (cs := #[Str [], Str [], I 0, I 0, I 0, I 0, .int .u64 0, sl none 0 0, sl none 0 0]) (vs := [Str x.kind, Str x.s, I x.a, I x.b, I x.c, I x.d, Uw x.k, sl (f i).1.1 x.puts.length (f i).1.2, sl (f i).2.1 x.changes.length (f i).2.2]) #[Str x.kind, Str x.s, I x.a, I x.b, I x.c, I x.d, Uw x.k, sl (f i).1.1 x.puts.length (f i).1.2, sl (f i).2.1 x.changes.length (f i).2.2] Try.sizeOf52 rfl rfl rfl rfl (by simp) (splice_all rfl)) ?_
            rintro _ _ rfl
            refine g_nil ?_
            refine g_seq ?_
            refine g_reg ?_
            refine g_v (v_assign rfl) rfl ?_
            refine g_nil ?_
            refine g_seq ?_
            refine g_seq ?_
            refine g_reg ?_
            refine g_v (v_fieldAddr 0 Try.underlying52 rfl rfl Try.sizeOf9 (by decide) rfl) rfl ?_
            refine g_v (v_load (v := Str x.kind) Try.isAgg9 rfl rfl) rfl ?_
            refine g_nil ?_
            refine g_block ?_
            refine g_seq ?_
            refine g_reg ?_
            refine g_v (v_seql rfl rfl) rfl ?_
            refine g_v (v_assign rfl) rfl ?_
            refine g_nil ?_
            refine g_cut (α := DiskM) (fun D' => okS n.toNat (i + 1) D') (fun D' => U [(0, I n), (1, sl s l.length cap), (6, ptr b33 0), (8, ptr b38 0), (10, I i), (12, Bo true)]) (fun D' => dsk 184 187 b33 (D') :: dsk 64 188 b38 (D') :: acts s l f :: F) ?_ ?_
            · skip
              refine g_cond rfl (fun h82 => ?_) (fun h82 => ?_)
              · skip
                refine g_draw (Lf := pt b11 (.cells #[Str x.kind, Str x.s, I x.a, I x.b, I x.c, I x.d, Uw x.k, sl (f i).1.1 x.puts.length (f i).1.2, sl (f i).2.1 x.changes.length (f i).2.2] 52 (0, 0)) :: F) [(0, false), (1, false), (2, false), (3, false), (4, false), (6, false), (7, false), (8, false), (9, false), (10, false), (5, true), (11, true), (12, true), (13, false)] (by kernel_rfl) (by kernel_rfl) rfl (by kernel_rfl) ?_
                refine d_v rfl (v_move rfl) rfl ?_
                refine d_v rfl (v_fieldAddr 2 Try.underlying52 rfl rfl Try.sizeOf3 (by decide) rfl) rfl ?_
                refine d_v rfl (v_load (v := I x.a) Try.isAgg3 rfl rfl) rfl ?_
                refine d_v rfl (v_fieldAddr 1 Try.underlying52 rfl rfl Try.sizeOf9 (by decide) rfl) rfl ?_
                refine d_v rfl (v_load (v := Str x.s) Try.isAgg9 rfl rfl) rfl ?_
                refine d_v rfl (v_move rfl) rfl ?_
                refine d_v rfl (v_fieldAddr 2 Try.underlying52 rfl rfl Try.sizeOf3 (by decide) rfl) rfl ?_
                refine d_v rfl (v_load (v := I x.a) Try.isAgg3 rfl rfl) rfl ?_
                refine d_v rfl (v_fieldAddr 1 Try.underlying52 rfl rfl Try.sizeOf9 (by decide) rfl) rfl ?_
                refine d_v rfl (v_load (v := Str x.s) Try.isAgg9 rfl rfl) rfl ?_
                refine d_l rfl (l_call (Pre := [dsk 184 187 b33 (D)]) Try.call32 rfl (ct_disk_Write b33 D x.a x.s hf hw)) rfl ?_
                rintro _ _ ⟨rfl, rfl⟩
                refine d_l rfl (l_call (Pre := [dsk 64 188 b38 (D)]) Try.call33 rfl (ct_R_Disk_Write b38 D x.a x.s hf hw)) rfl ?_
                rintro _ _ ⟨rfl, rfl⟩
                refine d_l rfl (l_call (Pre := []) Try.call14 rfl (ct_L_same (writeE D x.a x.s) (writeE D x.a x.s) (by first | exact stepE_nn _ | exact writeE_nn _ _ _ | exact readE_nn _ _))) rfl ?_
                rintro _ _ ⟨rfl, rfl⟩
                rw [decide_eq_true (rfl : writeE D x.a x.s = writeE D x.a x.s)]
                refine d_v rfl (v_assign rfl) rfl ?_
                refine d_nil ?_
                exact g_here (writeD D x.a x.s) (okS_write hok _ _) [0, 1, 6, 8, 10, 12] rfl rfl
              · skip
                refine g_seq ?_
                refine g_reg ?_
                refine g_v (v_seql rfl rfl) rfl ?_
                refine g_v (v_assign rfl) rfl ?_
                refine g_nil ?_
                refine g_cond rfl (fun h97 => ?_) (fun h97 => ?_)
                · skip
                  refine g_seq ?_
                  refine g_reg ?_
                  refine g_v (v_move rfl) rfl ?_
                  refine g_v (v_fieldAddr 2 Try.underlying52 rfl rfl Try.sizeOf3 (by decide) rfl) rfl ?_
                  refine g_v (v_load (v := I x.a) Try.isAgg3 rfl rfl) rfl ?_
                  refine g_l (l_call (Pre := [dsk 184 187 b33 (D)]) Try.call34 rfl (ct_disk_Read b33 D x.a)) rfl ?_
                  rintro _ _ ⟨rfl, rfl⟩
                  refine g_v (v_move rfl) rfl ?_
                  refine g_v (v_extract (v := Str (readV D (x.a)).1) rfl rfl) rfl ?_
                  refine g_v (v_extract (v := errV (readV D (x.a)).2) rfl rfl) rfl ?_
                  refine g_v (v_assign rfl) rfl ?_
                  refine g_v (v_assign rfl) rfl ?_
                  refine g_nil ?_
                  refine g_seq ?_
                  refine g_reg ?_
                  refine g_v (v_move rfl) rfl ?_
                  refine g_v (v_fieldAddr 2 Try.underlying52 rfl rfl Try.sizeOf3 (by decide) rfl) rfl ?_
                  refine g_v (v_load (v := I x.a) Try.isAgg3 rfl rfl) rfl ?_
                  refine g_l (l_call (Pre := [dsk 64 188 b38 (D)]) Try.call35 rfl (ct_R_Disk_Read b38 D x.a)) rfl ?_
                  rintro _ _ ⟨rfl, rfl⟩
                  refine g_v (v_move rfl) rfl ?_
                  refine g_v (v_extract (v := Str (readV D (x.a)).1) rfl rfl) rfl ?_
                  refine g_v (v_extract (v := I (readV D (x.a)).2) rfl rfl) rfl ?_
                  refine g_v (v_assign rfl) rfl ?_
                  refine g_v (v_assign rfl) rfl ?_
                  refine g_nil ?_
                  refine g_reg ?_
                  refine g_v (v_move rfl) rfl ?_
                  refine g_v (v_move rfl) rfl ?_
                  refine g_v (v_seql rfl rfl) rfl ?_
                  refine g_v (v_move rfl) rfl ?_
                  refine g_gv1 rfl rfl (by simp) (v_move rfl) rfl ?_
                  refine g_gv1 rfl rfl (by simp) (v_move rfl) rfl ?_
                  refine g_gl rfl rfl (by simp) (l_call (Pre := []) Try.call14 rfl (ct_L_same ((readV D (x.a)).2) ((readV D (x.a)).2) (by first | exact stepE_nn _ | exact writeE_nn _ _ _ | exact readE_nn _ _))) rfl ?_
                  rintro _ _ ⟨rfl, rfl⟩
                  refine g_v (v_and rfl rfl) rfl ?_
                  refine g_v (v_assign rfl) rfl ?_
                  refine g_nil ?_
                  rw [same_self' (readV D (x.a)).1 (readV D (x.a)).2]
                  exact g_here (D) (okS_mono hok) [0, 1, 6, 8, 10, 12] rfl rfl
                · skip
                  refine g_seq ?_
                  refine g_reg ?_
                  refine g_v (v_seql rfl rfl) rfl ?_
                  refine g_v (v_assign rfl) rfl ?_
                  refine g_nil ?_
                  refine g_cond rfl (fun h121 => ?_) (fun h121 => ?_)
                  · skip
                    refine g_reg ?_
                    refine g_v (v_move rfl) rfl ?_
                    refine g_l (l_call (Pre := [dsk 184 187 b33 (D)]) Try.call36 rfl (ct_disk_Flush b33 D hf hkk hnow)) rfl ?_
                    rintro _ _ ⟨rfl, rfl⟩
                    refine g_v (v_move rfl) rfl ?_
                    refine g_l (l_call (Pre := [dsk 64 188 b38 (D)]) Try.call37 rfl (ct_R_Disk_Flush b38 D hf hkk hnow)) rfl ?_
                    rintro _ _ ⟨rfl, rfl⟩
                    refine g_l (l_call (Pre := []) Try.call14 rfl (ct_L_same (stepE D) (stepE D) (by first | exact stepE_nn _ | exact writeE_nn _ _ _ | exact readE_nn _ _))) rfl ?_
                    rintro _ _ ⟨rfl, rfl⟩
                    rw [decide_eq_true (rfl : stepE D = stepE D)]
                    refine g_v (v_assign rfl) rfl ?_
                    refine g_nil ?_
                    exact g_here (flushD D) (okS_flush hok) [0, 1, 6, 8, 10, 12] rfl rfl
                  · skip
                    refine g_seq ?_
                    refine g_reg ?_
                    refine g_v (v_seql rfl rfl) rfl ?_
                    refine g_v (v_assign rfl) rfl ?_
                    refine g_nil ?_
                    refine g_cond rfl (fun h128 => ?_) (fun h128 => ?_)
                    · skip
                      refine g_seq ?_
                      refine g_reg ?_
                      refine g_v (v_move rfl) rfl ?_
                      refine g_v (v_fieldAddr 2 Try.underlying52 rfl rfl Try.sizeOf3 (by decide) rfl) rfl ?_
                      refine g_v (v_load (v := I x.a) Try.isAgg3 rfl rfl) rfl ?_
                      refine g_l (l_call (Pre := [dsk 184 187 b33 (D)]) Try.call38 rfl (ct_disk_Arm b33 D x.a)) rfl ?_
                      rintro _ _ ⟨rfl, rfl⟩
                      refine g_nil ?_
                      refine g_openD 64 188 b38 D ?_
                      intro s1 c1 s2 c2 s3 c3
                      refine g_reg ?_
                      refine g_v (v_move rfl) rfl ?_
                      refine g_v (v_fieldAddr 2 Try.underlying52 rfl rfl Try.sizeOf3 (by decide) rfl) rfl ?_
                      refine g_v (v_load (v := I x.a) Try.isAgg3 rfl rfl) rfl ?_
                      refine g_v (v_max rfl rfl) rfl ?_
                      refine g_v (v_nilCheck rfl) rfl ?_
                      refine g_v (v_fieldAddr 3 Try.underlying64 rfl rfl Try.sizeOf3 (by decide) rfl) rfl ?_
                      refine g_l0 (l_store #[sl s1 (D.kept).length c1, sl s2 (D.now).length c2, sl s3 (D.wait).length c3, I (if x.a < -1 then -1 else x.a), Bo (D.down)] Try.sizeOf3 rfl rfl rfl (by simp) rfl) ?_
                      rintro _ _ rfl
                      refine g_nil ?_
                      refine g_shutD (s1 := s1) (s2 := s2) (s3 := s3) (c1 := c1) (c2 := c2) (c3 := c3) 64 188 b38 (⟨D.kept, D.now, D.wait, if x.a < -1 then -1 else x.a, D.down⟩ : DiskM) ?_
                      exact g_here ((⟨D.kept, D.now, D.wait, if x.a < -1 then -1 else x.a, D.down⟩ : DiskM)) (okS_arm hok hx2.2) [0, 1, 6, 8, 10, 12] rfl rfl
                    · skip
                      refine g_seq ?_
                      refine g_reg ?_
                      refine g_v (v_move rfl) rfl ?_
                      refine g_v (v_fieldAddr 6 Try.underlying52 rfl rfl Try.sizeOf48 (by decide) rfl) rfl ?_
                      refine g_v (v_load (v := Uw x.k) Try.isAgg48 rfl rfl) rfl ?_
                      refine g_l (l_call (Pre := [dsk 184 187 b33 (D)]) Try.call39 rfl (ct_disk_Restart b33 D x.k hx3 hkk hwt hw)) rfl ?_
                      rintro _ _ ⟨rfl, rfl⟩
                      refine g_nil ?_
                      refine g_reg ?_
                      refine g_v (v_move rfl) rfl ?_
                      refine g_v (v_fieldAddr 6 Try.underlying52 rfl rfl Try.sizeOf48 (by decide) rfl) rfl ?_
                      refine g_v (v_load (v := Uw x.k) Try.isAgg48 rfl rfl) rfl ?_
                      refine g_l (l_call (Pre := [dsk 64 188 b38 (D)]) Try.call40 rfl (ct_R_Disk_Restart b38 D x.k hx3 hkk hnow hwt hw)) rfl ?_
                      rintro _ _ ⟨rfl, rfl⟩
                      refine g_nil ?_
                      exact g_here (restD x.k D) (okS_rest hok _) [0, 1, 6, 8, 10, 12] rfl rfl
            rintro D' hok'
            refine g_blk ?_
            refine g_seq ?_
            refine g_openD 64 188 b38 D' ?_
            intro s1 c1 s2 c2 s3 c3
            refine g_draw (Lf := pt b38 (.cells #[sl s1 (D'.kept).length c1, sl s2 (D'.now).length c2, sl s3 (D'.wait).length c3, I (D'.fuse), Bo (D'.down)] 64 (0, 0)) :: F) [(0, false), (1, false), (2, false), (3, false), (5, false), (6, false), (7, false), (8, false), (4, true), (9, false), (10, false)] (by kernel_rfl) (by kernel_rfl) rfl (by kernel_rfl) ?_
            refine d_v rfl (v_move rfl) rfl ?_
            refine d_v rfl (v_not rfl) rfl ?_
            refine d_v rfl (v_move rfl) rfl ?_
            refine d_gv1 rfl rfl rfl rfl (v_move rfl) rfl ?_
            refine d_gv1 rfl rfl rfl rfl (v_move rfl) rfl ?_
            refine d_gv1 rfl rfl rfl rfl (v_nilCheck rfl) rfl ?_
            refine d_gv1 rfl rfl rfl rfl (v_fieldAddr 4 Try.underlying64 rfl rfl Try.sizeOf4 (by decide) rfl) rfl ?_
            refine d_gv1 rfl rfl rfl rfl (v_load (v := Bo D'.down) Try.isAgg4 rfl rfl) rfl ?_
            refine d_gl rfl rfl rfl rfl (l_call (Pre := [dsk 184 187 b33 (D')]) Try.call41 rfl (ct_disk_Down b33 D')) rfl ?_
            rintro _ _ ⟨rfl, rfl⟩
            refine d_gv1 rfl rfl rfl rfl (v_bneq Try.underlying4 rfl rfl) rfl ?_
            refine d_v rfl (v_or rfl rfl) rfl ?_
            refine d_nil ?_
            refine g_shutD (s1 := s1) (s2 := s2) (s3 := s3) (c1 := c1) (c2 := c2) (c3 := c3) 64 188 b38 D' ?_
            refine g_cond rfl (fun h150 => ?_) (fun h150 => ?_)
            · simp at h150
            · skip
              refine g_skip ?_
              refine g_blk ?_
              refine g_reg ?_
              refine g_v (v_move rfl) rfl ?_
              refine g_v (v_add rfl rfl (w64 (by omega))) rfl ?_
              refine g_v (v_assign rfl) rfl ?_
              refine g_nil ?_
              exact g_again (i + 1, D') ⟨by simp; omega, hok'⟩ (by simp; omega) [0, 1, 6, 8, 10] rfl rfl
          · simp at h65
            obtain rfl : i = l.length := by omega
            refine g_exit rfl ?_
            refine g_seq ?_
            refine g_seq ?_
            refine g_reg ?_
            refine g_v (v_assign rfl) rfl ?_
            refine g_nil ?_
            refine g_block ?_
            refine g_loop (α := Int) (fun z => -1 ≤ z ∧ z ≤ n + 1) (fun z => U [(0, I n), (6, ptr b33 0), (8, ptr b38 0), (17, I z)]) (fun z => dsk 184 187 b33 (D) :: dsk 64 188 b38 (D) :: acts s l f :: F) (fun z => (n + 1 - z).toNat) (-1) (by omega) [0, 6, 8, 17] rfl rfl ?_
            rintro z ⟨hz1, hz2⟩
            refine g_seq ?_
            refine g_seq ?_
            refine g_reg ?_
            refine g_v (v_move rfl) rfl ?_
            refine g_v (v_move rfl) rfl ?_
            refine g_v (v_leq rfl rfl) rfl ?_
            refine g_nil ?_
            refine g_cond rfl (fun h153 => ?_) (fun h153 => ?_)
            · simp at h153
              refine g_skip ?_
              refine g_seq ?_
              refine g_block ?_
              refine g_seq ?_
              refine g_reg ?_
              refine g_v (v_move rfl) rfl ?_
              refine g_v (v_move rfl) rfl ?_
              refine g_l (l_call (Pre := [dsk 184 187 b33 (D)]) Try.call34 rfl (ct_disk_Read b33 D z)) rfl ?_
              rintro _ _ ⟨rfl, rfl⟩
              refine g_v (v_move rfl) rfl ?_
              refine g_v (v_extract (v := Str (readV D (z)).1) rfl rfl) rfl ?_
              refine g_v (v_extract (v := errV (readV D (z)).2) rfl rfl) rfl ?_
              refine g_v (v_assign rfl) rfl ?_
              refine g_v (v_assign rfl) rfl ?_
              refine g_nil ?_
              refine g_seq ?_
              refine g_reg ?_
              refine g_v (v_move rfl) rfl ?_
              refine g_v (v_move rfl) rfl ?_
              refine g_l (l_call (Pre := [dsk 64 188 b38 (D)]) Try.call35 rfl (ct_R_Disk_Read b38 D z)) rfl ?_
              rintro _ _ ⟨rfl, rfl⟩
              refine g_v (v_move rfl) rfl ?_
              refine g_v (v_extract (v := Str (readV D (z)).1) rfl rfl) rfl ?_
              refine g_v (v_extract (v := I (readV D (z)).2) rfl rfl) rfl ?_
              refine g_v (v_assign rfl) rfl ?_
              refine g_v (v_assign rfl) rfl ?_
              refine g_nil ?_
              refine g_seq ?_
              refine g_reg ?_
              refine g_v (v_move rfl) rfl ?_
              refine g_v (v_move rfl) rfl ?_
              refine g_v (v_sneq rfl rfl) rfl ?_
              refine g_v (v_move rfl) rfl ?_
              refine g_gv1 rfl rfl (by simp) (v_move rfl) rfl ?_
              refine g_gv1 rfl rfl (by simp) (v_move rfl) rfl ?_
              refine g_gl rfl rfl (by simp) (l_call (Pre := []) Try.call14 rfl (ct_L_same ((readV D (z)).2) ((readV D (z)).2) (by first | exact stepE_nn _ | exact writeE_nn _ _ _ | exact readE_nn _ _))) rfl ?_
              rintro _ _ ⟨rfl, rfl⟩
              refine g_gv1 rfl rfl (by simp) (v_not rfl) rfl ?_
              refine g_v (v_or rfl rfl) rfl ?_
              refine g_nil ?_
              refine g_cond rfl (fun h176 => ?_) (fun h176 => ?_)
              · simp at h176
              · skip
                refine g_skip ?_
                refine g_blk ?_
                refine g_reg ?_
                refine g_v (v_move rfl) rfl ?_
                refine g_v (v_add rfl rfl (w64 (by omega))) rfl ?_
                refine g_v (v_assign rfl) rfl ?_
                refine g_nil ?_
                exact g_again (z + 1) (by omega) (by omega) [0, 6, 8, 17] rfl rfl
            · skip
              refine g_exit rfl ?_
              refine g_seq ?_
              refine g_reg ?_
              refine g_v (v_assign rfl) rfl ?_
              refine g_nil ?_
              refine g_ret1 rfl rfl ?_
              exact rfl
    · skip
      refine g_l (l_call (Pre := []) Try.call29 rfl (ct_disk_New n)) rfl ?_
      rintro _ _ (⟨_, rfl, rfl⟩ | ⟨hyes, _, _, _⟩)
      rotate_left
      · exact absurd hyes hns
      refine g_v (v_move rfl) rfl ?_
      refine g_v (v_extract (v := .pointer none) rfl rfl) rfl ?_
      refine g_v (v_extract (v := errV 1) rfl rfl) rfl ?_
      refine g_v (v_assign rfl) rfl ?_
      refine g_v (v_assign rfl) rfl ?_
      refine g_nil ?_
      refine g_seq ?_
      refine g_reg ?_
      refine g_v (v_move rfl) rfl ?_
      refine g_l (l_call (Pre := []) Try.call30 rfl (ct_R_NewDisk n)) rfl ?_
      rintro _ _ (⟨_, rfl, rfl⟩ | ⟨hyes, _, _, _⟩)
      rotate_left
      · exact absurd hyes hns
      refine g_v (v_move rfl) rfl ?_
      refine g_v (v_extract (v := .pointer none) rfl rfl) rfl ?_
      refine g_v (v_extract (v := I 1) rfl rfl) rfl ?_
      refine g_v (v_assign rfl) rfl ?_
      refine g_v (v_assign rfl) rfl ?_
      refine g_nil ?_
      refine g_seq ?_
      refine g_seq ?_
      refine g_reg ?_
      refine g_v (v_move rfl) rfl ?_
      refine g_v (v_gtr rfl rfl) rfl ?_
      refine g_nil ?_
      refine g_cond rfl (fun h42 => ?_) (fun h42 => ?_)
      · skip
        refine g_seq ?_
        refine g_reg ?_
        refine g_v (v_move rfl) rfl ?_
        refine g_v (v_move rfl) rfl ?_
        refine g_l (l_call (Pre := []) Try.call14 rfl (ct_L_same 1 1 (by decide))) rfl ?_
        rintro _ _ ⟨rfl, rfl⟩
        refine g_v (v_move rfl) rfl ?_
        refine g_gv1 rfl rfl rfl (v_move rfl) rfl ?_
        refine g_gv1 rfl rfl rfl (v_pnil Try.underlying41 rfl) rfl ?_
        refine g_v (v_and rfl rfl) rfl ?_
        refine g_v (v_assign rfl) rfl ?_
        refine g_nil ?_
        refine g_ret1 rfl rfl ?_
        exact rfl
      · simp at h42

end Go.Proofs.Ythdjckbjjfiopaa
