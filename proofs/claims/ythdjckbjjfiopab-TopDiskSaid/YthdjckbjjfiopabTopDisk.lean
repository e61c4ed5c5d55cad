/- The walk through the law TopDisk. No condition. -/
import Derived.Test.YthdjckbjjfiopabDiskLaw
import Derived.Test.YthdjckbjjfiopabLight2
import Derived.Test.YthdjckbjjfiopabSl17
namespace Go.Proofs.Ythdjckbjjfiopab
open Go.Sl Go.Proofs
set_option linter.unusedVariables false
set_option linter.unusedSimpArgs false
/-- what is known of a disk of N sectors after i actions -/
def okS (N i : Nat) (D : DiskM) : Prop := D.kept.length = N ∧ D.now.length = N ∧ (-1 ≤ D.fuse ∧ D.fuse ≤ 9223372036854775807) ∧ (∀ t ∈ D.wait, t.1 < N) ∧ D.wait.length ≤ i
theorem okS_new (N : Nat) : okS N 0 (newD N) := ⟨by simp [newD], by simp [newD], by simp [newD], by simp [newD], by simp [newD]⟩
theorem okS_mono {N i : Nat} {D : DiskM} (h : okS N i D) : okS N (i + 1) D := ⟨h.1, h.2.1, h.2.2.1, h.2.2.2.1, by have := h.2.2.2.2; omega⟩
theorem okS_step {N i : Nat} {D : DiskM} (h : okS N i D) : okS N i (stepD D) := by
  obtain ⟨h1, h2, h3, h4, h5⟩ := h
  unfold stepD
  split
  · exact ⟨h1, h2, h3, h4, h5⟩
  · split
    · exact ⟨h1, h2, by simp, h4, h5⟩
    · refine ⟨h1, h2, ?_, h4, h5⟩
      simp only
      split <;> omega
theorem okS_write {N i : Nat} {D : DiskM} (h : okS N i D) (n : Int) (s : Bytes) : okS N (i + 1) (writeD D n s) := by
  unfold writeD
  split
  · exact okS_mono h
  · rename_i hb
    split
    · obtain ⟨h1, h2, h3, h4, h5⟩ := okS_step h
      refine ⟨h1, by simp [wroteD, h2], h3, fun t ht => ?_, by simp [wroteD]; exact h5⟩
      simp only [wroteD, List.mem_append, List.mem_singleton] at ht
      rcases ht with ht | rfl
      · exact h4 t ht
      · have := h.2.1
        unfold badW at hb
        simp only
        omega
    · exact okS_mono (okS_step h)
def up (D : DiskM) : Prop := D.down = false ∧ D.fuse = -1
def clean (N : List Bytes) : DiskM := ⟨N, N, [], -1, false⟩
theorem stepE_up {D : DiskM} (h : up D) : stepE D = 0 := by unfold stepE; rw [if_neg (by rw [h.1, h.2]; simp)]
theorem stepD_up {D : DiskM} (h : up D) : stepD D = D := by
  obtain ⟨k, n, w, f, d⟩ := D
  obtain ⟨h1, h2⟩ := h
  simp at h1 h2
  subst h1 h2
  rfl
theorem writeE_up {D : DiskM} (h : up D) (n : Int) (s : Bytes) : writeE D n s = if badW D n s then 1 else 0 := by unfold writeE; rw [stepE_up h]
theorem write_up {D : DiskM} (h : up D) {n : Int} {s : Bytes} (hb : ¬ badW D n s) : writeD D n s = wroteD D n s := by unfold writeD; rw [if_neg hb, if_pos (stepE_up h), stepD_up h]
theorem up_write {D : DiskM} (h : up D) (n : Int) (s : Bytes) : up (writeD D n s) := by
  by_cases hb : badW D n s
  · unfold writeD; rw [if_pos hb]; exact h
  · rw [write_up h hb]; exact h
theorem flush_up {D : DiskM} (h : up D) : flushD D = clean D.now := by
  unfold flushD
  rw [if_pos (stepE_up h), stepD_up h]
  obtain ⟨k, n, w, f, d⟩ := D
  obtain ⟨h1, h2⟩ := h
  simp at h1 h2
  subst h1 h2
  rfl
theorem up_clean (N : List Bytes) : up (clean N) := ⟨rfl, rfl⟩
theorem restK_app (keep : Int) (w : List (Nat × Bytes)) (t : Nat × Bytes) (l : List Bytes) : ∀ k, k ≤ w.length → restK keep (w ++ [t]) l k = restK keep w l k
  | 0, _ => rfl
  | k + 1, h => by
    have ih := restK_app keep w t l k (by omega)
    have e : (w ++ [t])[k]? = w[k]? := List.getElem?_append_left (by omega)
    unfold restK
    rw [e, ih]
theorem rest_hit {keep : Int} {D : DiskM} {n : Int} {s : Bytes} (h : kb keep D.wait.length = true) : restL keep (wroteD D n s) = (restL keep D).set n.toNat (fullB s) := by
  show restK keep (D.wait ++ [(n.toNat, fullB s)]) D.kept (D.wait ++ [(n.toNat, fullB s)]).length = _
  rw [List.length_append, List.length_singleton, restK_hit (t := (n.toNat, fullB s)) (by simp) h, restK_app _ _ _ _ _ (Nat.le_refl _)]
  rfl
theorem rest_miss {keep : Int} {D : DiskM} {n : Int} {s : Bytes} (h : kb keep D.wait.length = false) : restL keep (wroteD D n s) = restL keep D := by
  show restK keep (D.wait ++ [(n.toNat, fullB s)]) D.kept (D.wait ++ [(n.toNat, fullB s)]).length = _
  rw [List.length_append, List.length_singleton, restK_miss (t := (n.toNat, fullB s)) (by simp) h, restK_app _ _ _ _ _ (Nat.le_refl _)]
  rfl
def strA (l : List Bytes) : Array Value := (l.map Str).toArray
theorem strA_set (l : List Bytes) (j : Nat) (x : Bytes) : (strA l).setIfInBounds (0 + j * 1) (Str x) = strA (l.set j x) := by simp [strA, List.map_set]
theorem strA_at {l : List Bytes} {k : Nat} {x : Bytes} {T : TypeId} {f : Nat × Nat} (h : l[k]? = some x) : objCell (.cells (strA l) T f) (0 + k * 1) = some (Str x) := by simp [objCell, strA, h]
def wK (L : List Bytes) (k : Nat) : List Bytes := L.take k ++ List.replicate (4 - k) []
theorem wK_set {L : List Bytes} {k : Nat} {x : Bytes} (hL : L.length = 4) (h : L[k]? = some x) : (wK L k).set k x = wK L (k + 1) := by
  obtain ⟨hk, rfl⟩ := List.getElem?_eq_some_iff.1 h
  match L, hL with
  | [a, b, c, d], _ =>
    match k, hk with
    | 0, _ => rfl
    | 1, _ => rfl
    | 2, _ => rfl
    | 3, _ => rfl
theorem wK_all {L : List Bytes} (hL : L.length = 4) : wK L 4 = L := by simp [wK, ← hL]
theorem wK_len {L : List Bytes} {k : Nat} (hL : L.length = 4) (hk : k ≤ 4) : (wK L k).length = 4 := by simp [wK]; omega
def actOk (x : ActM) : Prop := x.puts.length ≤ 9223372036854775807 ∧ x.changes.length ≤ 9223372036854775807

theorem ct_T_TopDisk (l m : List ActM) (f f' : Nat → ActZ) (s s' : Option Addr) (cap cap' : Nat) (keep : Int) (hl : l.length ≤ 9223372036854775807) (hm : m.length ≤ 9223372036854775807) (hla : ∀ x ∈ l, actOk x) (hma : ∀ x ∈ m, actOk x) (hkeep : 0 ≤ keep ∧ keep < 18446744073709551616) (F : List HProp) : Ct Try.prog 4 [sl s l.length cap, sl s' m.length cap', Uw keep] ([acts s l f, acts s' m f'] ++ F) (R1 (Bo true) (acts s l f :: acts s' m f' :: F)) := by
  show Ct Try.prog 4 [sl s l.length cap, sl s' m.length cap', Uw keep] (acts s l f :: acts s' m f' :: F) _
  refine Ct.of Try.func4 rfl 152 Try.ntmps4 (by simp) fun w0 => ?_
  refine g_seq ?_
  refine g_reg ?_
  refine g_v (v_assign rfl) rfl ?_
  refine g_nil ?_
  refine g_seq ?_
  refine g_reg ?_
  refine g_l (l_call (Pre := []) Try.call17 rfl (ct_disk_New 4)) rfl ?_
  rintro _ _ (⟨hno, _, _⟩ | ⟨_, b22, rfl, rfl⟩)
  · exact absurd (by decide) hno
  rw [show newD (4 : Int).toNat = clean (List.replicate 4 (nulls 80)) from rfl]
  refine g_v (v_move rfl) rfl ?_
  refine g_v (v_extract (v := ptr b22 0) rfl rfl) rfl ?_
  refine g_v (v_extract (v := errV 0) rfl rfl) rfl ?_
  refine g_v (v_assign rfl) rfl ?_
  refine g_v (v_assign rfl) rfl ?_
  refine g_nil ?_
  refine g_seq ?_
  refine g_seq ?_
  refine g_reg ?_
  refine g_v (v_move rfl) rfl ?_
  refine g_v (v_ineq Try.underlying29 rfl) rfl ?_
  refine g_v (v_move rfl) rfl ?_
  refine g_gv1 rfl rfl rfl (v_move rfl) rfl ?_
  refine g_gv1 rfl rfl rfl (v_pnil Try.underlying36 rfl) rfl ?_
  refine g_v (v_or rfl rfl) rfl ?_
  refine g_v (v_move rfl) rfl ?_
  refine g_gv1 rfl rfl rfl (v_move rfl) rfl ?_
  refine g_gl rfl rfl rfl (l_call (Pre := [dsk 109 114 b22 (clean (List.replicate 4 (nulls 80)))]) Try.call18 rfl (ct_disk_Flush b22 (clean (List.replicate 4 (nulls 80))) (by decide) (by decide) (by decide))) rfl ?_
  rintro _ _ ⟨rfl, rfl⟩
  rw [stepE_up (up_clean _), flush_up (up_clean _)]
  rw [show clean (clean (List.replicate 4 (nulls 80))).now = clean (List.replicate 4 (nulls 80)) from rfl]
  refine g_gv1 rfl rfl rfl (v_ineq Try.underlying29 rfl) rfl ?_
  refine g_v (v_or rfl rfl) rfl ?_
  refine g_v (v_move rfl) rfl ?_
  refine g_gv1 rfl rfl rfl (v_move rfl) rfl ?_
  refine g_gl rfl rfl rfl (l_call (Pre := [dsk 109 114 b22 (clean (List.replicate 4 (nulls 80)))]) Try.call19 rfl (ct_disk_Sectors b22 (clean (List.replicate 4 (nulls 80))))) rfl ?_
  rintro _ _ ⟨rfl, rfl⟩
  refine g_gv1 rfl rfl rfl (v_neq rfl rfl) rfl ?_
  refine g_v (v_or rfl rfl) rfl ?_
  refine g_nil ?_
  refine g_cond rfl (fun h40 => ?_) (fun h40 => ?_)
  · simp [clean] at h40
  · skip
    refine g_skip ?_
    refine g_seq ?_
    refine g_seq ?_
    refine g_reg ?_
    refine g_v (v_move rfl) rfl ?_
    refine g_l (l_call (Pre := [acts s l f]) Try.call20 rfl (ct_L_LightActs l f s cap 40 hl hla)) rfl ?_
    rintro _ _ ⟨rfl, rfl⟩
    refine g_v (v_not rfl) rfl ?_
    refine g_v (v_move rfl) rfl ?_
    refine g_gv rfl rfl (fun hg => v_move rfl) rfl rfl ?_
    refine g_gq rfl rfl (fun hg => l_call (Pre := [acts s' m f']) (R := fun F => R1 (Bo (lightA m 60)) (acts s' m f' :: F)) Try.call20 rfl (ct_L_LightActs m f' s' cap' 60 hm hma)) rfl rfl ?_
    refine g_gv rfl rfl (fun hg => v_not rfl) rfl rfl ?_
    refine g_v (v_or rfl rfl) rfl ?_
    refine g_nil ?_
    refine g_cond rfl (fun h48 => ?_) (fun h48 => ?_)
    · skip
      refine g_seq ?_
      refine g_reg ?_
      refine g_v (v_assign rfl) rfl ?_
      refine g_nil ?_
      refine g_ret1 rfl rfl ?_
      exact rfl
    · simp at h48
      have hll : l.length ≤ 40 := by have := h48.1; unfold lightA at this; simp at this; omega
      have hml : m.length ≤ 60 := by have := h48.2; unfold lightA at this; simp at this; omega
      refine g_skip ?_
      refine g_seq ?_
      refine g_seq ?_
      refine g_reg ?_
      refine g_v (v_assign rfl) rfl ?_
      refine g_nil ?_
      refine g_block ?_
      refine g_loop (α := Nat × DiskM) (fun z => z.1 ≤ l.length ∧ okS 4 z.1 z.2 ∧ up z.2) (fun z => U [(0, sl s l.length cap), (1, sl s' m.length cap'), (2, Uw keep), (7, ptr b22 0), (9, I z.1)]) (fun z => dsk 109 114 b22 (z.2) :: acts s l f :: acts s' m f' :: F) (fun z => l.length - z.1) (0, clean (List.replicate 4 (nulls 80))) ⟨by simp, okS_new 4, up_clean _⟩ [0, 1, 2, 7, 9] rfl rfl ?_
      rintro ⟨k, D⟩ ⟨hk, hok, hu⟩
      simp only [] at hk hok hu ⊢
      refine g_seq ?_
      refine g_seq ?_
      refine g_reg ?_
      refine g_v (v_move rfl) rfl ?_
      refine g_v (v_move rfl) rfl ?_
      refine g_v (v_len Try.underlying34 rfl) rfl ?_
      refine g_v (v_lss rfl rfl) rfl ?_
      refine g_nil ?_
      refine g_cond rfl (fun h52 => ?_) (fun h52 => ?_)
      · simp at h52
        have hkn : k < l.length := by omega
        obtain ⟨x, hx⟩ : ∃ x, l[k]? = some x := ⟨_, List.getElem?_eq_getElem hkn⟩
        have hkr : k < (actR l f).length := by rw [actR_len]; exact hkn
        refine g_skip ?_
        refine g_seq ?_
        refine g_block ?_
        refine g_draw (Lf := acts s l f :: acts s' m f' :: F) [(0, false), (1, false), (2, false), (3, false), (4, false), (5, false), (6, false), (7, false), (8, false), (9, false), (10, false), (11, true)] (by kernel_rfl) (by kernel_rfl) rfl (by kernel_rfl) ?_
        refine d_v rfl (v_move rfl) rfl ?_
        refine d_v rfl (v_move rfl) rfl ?_
        refine d_v rfl (v_move rfl) rfl ?_
        refine d_v rfl (v_idxS k Try.underlying34 Try.sizeOf46 rfl rfl rfl hkn hkr) rfl ?_
        refine d_v rfl (v_fieldAdrS (j := k) 2 Try.underlying46 rfl rfl Try.sizeOf3 (by decide) rfl hkr) rfl ?_
        refine d_v rfl (v_loadS (v := I x.a) Try.isAgg3 rfl (actR_at hx) rfl) rfl ?_
        refine d_v rfl (v_move rfl) rfl ?_
        refine d_v rfl (v_move rfl) rfl ?_
        refine d_v rfl (v_idxS k Try.underlying34 Try.sizeOf46 rfl rfl rfl hkn hkr) rfl ?_
        refine d_v rfl (v_fieldAdrS (j := k) 1 Try.underlying46 rfl rfl Try.sizeOf9 (by decide) rfl hkr) rfl ?_
        refine d_v rfl (v_loadS (v := Str x.s) Try.isAgg9 rfl (actR_at hx) rfl) rfl ?_
        refine d_l rfl (l_call (Pre := [dsk 109 114 b22 (D)]) Try.call21 rfl (ct_disk_Write b22 D x.a x.s hok.2.2.1 (by have := hok.2.2.2.2; omega))) rfl ?_
        rintro _ _ ⟨rfl, rfl⟩
        refine d_nil ?_
        refine g_blk ?_
        refine g_reg ?_
        refine g_v (v_move rfl) rfl ?_
        refine g_v (v_add rfl rfl (w64 (by omega))) rfl ?_
        refine g_v (v_assign rfl) rfl ?_
        refine g_nil ?_
        exact g_again (k + 1, writeD D x.a x.s) ⟨by simp; omega, okS_write hok _ _, up_write hu _ _⟩ (by simp; omega) [0, 1, 2, 7, 9] rfl rfl
      · simp at h52
        obtain rfl : k = l.length := by omega
        refine g_exit rfl ?_
        refine g_seq ?_
        refine g_seq ?_
        refine g_reg ?_
        refine g_v (v_move rfl) rfl ?_
        refine g_l (l_call (Pre := [dsk 109 114 b22 (D)]) Try.call18 rfl (ct_disk_Flush b22 D hok.2.2.1 (by rw [hok.1, hok.2.1]) (by rw [hok.2.1]; decide))) rfl ?_
        rintro _ _ ⟨rfl, rfl⟩
        rw [stepE_up hu, flush_up hu]
        refine g_v (v_ineq Try.underlying29 rfl) rfl ?_
        refine g_nil ?_
        refine g_cond rfl (fun h69 => ?_) (fun h69 => ?_)
        · simp at h69
        · have hn4 : D.now.length = 4 := hok.2.1
          refine g_skip ?_
          refine g_seq ?_
          refine g_reg ?_
          refine g_l (l_alloc #[Str [], Str [], Str [], Str []] Try.zeroValue47) rfl ?_
          rintro _ _ ⟨b10, rfl, rfl⟩
          rw [show (#[Str [], Str [], Str [], Str []] : Array Value) = strA (wK D.now 0) from rfl]
          refine g_nil ?_
          refine g_seq ?_
          refine g_seq ?_
          refine g_reg ?_
          refine g_v (v_assign rfl) rfl ?_
          refine g_nil ?_
          refine g_block ?_
          refine g_loop (α := Nat) (fun k => k ≤ 4) (fun k => U [(1, sl s' m.length cap'), (2, Uw keep), (7, ptr b22 0), (10, ptr b10 0), (11, I k)]) (fun k => pt b10 (.cells (strA (wK D.now k)) 47 (0, 0)) :: dsk 109 114 b22 (clean D.now) :: acts s l f :: acts s' m f' :: F) (fun k => 4 - k) 0 (by simp) [1, 2, 7, 10, 11] rfl rfl ?_
          intro k hk
          refine g_seq ?_
          refine g_seq ?_
          refine g_reg ?_
          refine g_v (v_move rfl) rfl ?_
          refine g_v (v_lss rfl rfl) rfl ?_
          refine g_nil ?_
          refine g_cond rfl (fun h71 => ?_) (fun h71 => ?_)
          · simp at h71
            have hk4 : k < D.now.length := by omega
            obtain ⟨x, hx⟩ : ∃ x, D.now[k]? = some x := ⟨_, List.getElem?_eq_getElem hk4⟩
            have hread : readV (clean D.now) (k : Int) = (x, 0) := readV_in rfl (by show ¬ ((k : Int) < 0 ∨ (D.now.length : Int) ≤ k); omega) (by show D.now[(k : Int).toNat]? = some x; rw [Int.toNat_natCast]; exact hx)
            refine g_skip ?_
            refine g_seq ?_
            refine g_block ?_
            refine g_seq ?_
            refine g_reg ?_
            refine g_v (v_move rfl) rfl ?_
            refine g_v (v_move rfl) rfl ?_
            refine g_l (l_call (Pre := [dsk 109 114 b22 (clean D.now)]) Try.call22 rfl (ct_disk_Read b22 (clean D.now) ((k : Int)))) rfl ?_
            rintro _ _ ⟨rfl, rfl⟩
            rw [hread]
            refine g_v (v_move rfl) rfl ?_
            refine g_v (v_extract (v := Str x) rfl rfl) rfl ?_
            refine g_v (v_extract (v := errV 0) rfl rfl) rfl ?_
            refine g_v (v_assign rfl) rfl ?_
            refine g_v (v_assign rfl) rfl ?_
            refine g_nil ?_
            refine g_seq ?_
            refine g_seq ?_
            refine g_reg ?_
            refine g_v (v_move rfl) rfl ?_
            refine g_v (v_ineq Try.underlying29 rfl) rfl ?_
            refine g_nil ?_
            refine g_cond rfl (fun h81 => ?_) (fun h81 => ?_)
            · simp at h81
            · skip
              refine g_skip ?_
              refine g_reg ?_
              refine g_v (v_move rfl) rfl ?_
              refine g_v (v_move rfl) rfl ?_
              refine g_v (v_idxA k Try.underlying47 Try.sizeOf9 rfl rfl rfl (by omega)) rfl ?_
              refine g_l0 (l_store (strA (wK D.now (k + 1))) Try.sizeOf9 rfl rfl rfl (by simp [strA, wK]; omega) (by rw [strA_set, wK_set hn4 hx])) ?_
              rintro _ _ rfl
              refine g_nil ?_
              refine g_blk ?_
              refine g_reg ?_
              refine g_v (v_move rfl) rfl ?_
              refine g_v (v_add rfl rfl (w64 (by omega))) rfl ?_
              refine g_v (v_assign rfl) rfl ?_
              refine g_nil ?_
              exact g_again (k + 1) (by omega) (by omega) [1, 2, 7, 10, 11] rfl rfl
          · simp at h71
            obtain rfl : k = 4 := by omega
            rw [wK_all hn4, show D.now = restL keep (clean D.now) from rfl]
            rw [show clean (restL keep (clean D.now)) = clean D.now from rfl]
            refine g_exit rfl ?_
            refine g_seq ?_
            refine g_reg ?_
            refine g_v (v_assign rfl) rfl ?_
            refine g_nil ?_
            refine g_seq ?_
            refine g_seq ?_
            refine g_reg ?_
            refine g_v (v_assign rfl) rfl ?_
            refine g_nil ?_
            refine g_block ?_
            refine g_loop (α := Nat × DiskM) (fun z => z.1 ≤ m.length ∧ okS 4 z.1 z.2 ∧ up z.2) (fun z => U [(1, sl s' m.length cap'), (2, Uw keep), (7, ptr b22 0), (10, ptr b10 0), (14, I z.2.wait.length), (15, I z.1)]) (fun z => pt b10 (.cells (strA (restL keep z.2)) 47 (0, 0)) :: dsk 109 114 b22 (z.2) :: acts s l f :: acts s' m f' :: F) (fun z => m.length - z.1) (0, clean D.now) ⟨by simp, ⟨hn4, hn4, by simp [clean], by simp [clean], by simp [clean]⟩, up_clean _⟩ [1, 2, 7, 10, 14, 15] rfl rfl ?_
            clear hok hu
            rintro ⟨i, D⟩ ⟨hi, hok, hu⟩
            simp only [] at hi hok hu ⊢
            refine g_seq ?_
            refine g_seq ?_
            refine g_reg ?_
            refine g_v (v_move rfl) rfl ?_
            refine g_v (v_move rfl) rfl ?_
            refine g_v (v_len Try.underlying34 rfl) rfl ?_
            refine g_v (v_lss rfl rfl) rfl ?_
            refine g_nil ?_
            refine g_cond rfl (fun h88 => ?_) (fun h88 => ?_)
            · simp at h88
              have hkn : i < m.length := by omega
              obtain ⟨x, hx⟩ : ∃ x, m[i]? = some x := ⟨_, List.getElem?_eq_getElem hkn⟩
              have hkr : i < (actR m f').length := by rw [actR_len]; exact hkn
              refine g_skip ?_
              refine g_seq ?_
              refine g_block ?_
              refine g_seq ?_
              refine g_seq ?_
              refine g_draw (Lf := acts s l f :: acts s' m f' :: F) [(0, false), (1, false), (2, false), (3, false), (4, false), (5, false), (6, false), (7, false), (8, false), (9, false), (10, false), (11, true), (12, false)] (by kernel_rfl) (by kernel_rfl) rfl (by kernel_rfl) ?_
              refine d_v rfl (v_move rfl) rfl ?_
              refine d_v rfl (v_move rfl) rfl ?_
              refine d_v rfl (v_move rfl) rfl ?_
              refine d_v rfl (v_idxS i Try.underlying34 Try.sizeOf46 rfl rfl rfl hkn hkr) rfl ?_
              refine d_v rfl (v_fieldAdrS (j := i) 2 Try.underlying46 rfl rfl Try.sizeOf3 (by decide) rfl hkr) rfl ?_
              refine d_v rfl (v_loadS (v := I x.a) Try.isAgg3 rfl (actR_at hx) rfl) rfl ?_
              refine d_v rfl (v_move rfl) rfl ?_
              refine d_v rfl (v_move rfl) rfl ?_
              refine d_v rfl (v_idxS i Try.underlying34 Try.sizeOf46 rfl rfl rfl hkn hkr) rfl ?_
              refine d_v rfl (v_fieldAdrS (j := i) 1 Try.underlying46 rfl rfl Try.sizeOf9 (by decide) rfl hkr) rfl ?_
              refine d_v rfl (v_loadS (v := Str x.s) Try.isAgg9 rfl (actR_at hx) rfl) rfl ?_
              refine d_l rfl (l_call (Pre := [dsk 109 114 b22 (D)]) Try.call21 rfl (ct_disk_Write b22 D x.a x.s hok.2.2.1 (by have := hok.2.2.2.2; omega))) rfl ?_
              rintro _ _ ⟨rfl, rfl⟩
              refine d_v rfl (v_ineq Try.underlying29 rfl) rfl ?_
              refine d_nil ?_
              refine g_cond rfl (fun h103 => ?_) (fun h103 => ?_)
              · simp at h103
                have hbad : badW D x.a x.s := Decidable.byContradiction fun hb => h103 (by rw [writeE_up hu, if_neg hb])
                rw [show writeD D x.a x.s = D by unfold writeD; rw [if_pos hbad]]
                refine g_exit rfl ?_
                refine g_reg ?_
                refine g_v (v_move rfl) rfl ?_
                refine g_v (v_add rfl rfl (w64 (by omega))) rfl ?_
                refine g_v (v_assign rfl) rfl ?_
                refine g_nil ?_
                exact g_again (i + 1, D) ⟨by simp; omega, okS_mono hok, hu⟩ (by simp; omega) [1, 2, 7, 10, 14, 15] rfl rfl
              · simp at h103
                have hbad : ¬ badW D x.a x.s := fun hb => by rw [writeE_up hu, if_pos hb] at h103; exact absurd h103 (by decide)
                have hok' := okS_write hok x.a x.s
                rw [write_up hu hbad] at hok' ⊢
                have hxa : 0 ≤ x.a ∧ x.a < 4 := by have := hok.2.1; unfold badW at hbad; omega
                have hw60 : D.wait.length ≤ 60 := by have := hok.2.2.2.2; omega
                have hread : readV (wroteD D x.a x.s) x.a = (fullB x.s, 0) := readV_in hu.1 (by show ¬ (x.a < 0 ∨ ((D.now.set x.a.toNat (fullB x.s)).length : Int) ≤ x.a); rw [List.length_set, hok.2.1]; omega) (by show (D.now.set x.a.toNat (fullB x.s))[x.a.toNat]? = _; exact List.getElem?_set_self (by rw [hok.2.1]; omega))
                refine g_skip ?_
                refine g_seq ?_
                refine g_seq ?_
                refine g_reg ?_
                refine g_v (v_move rfl) rfl ?_
                refine g_v (v_move rfl) rfl ?_
                refine g_v (v_shr (r := keep.fdiv (2 ^ (D.wait.length % 64))) rfl rfl (by omega) (by rw [show min ((D.wait.length : Int).toNat) IntKind.u64.bits = D.wait.length % 64 by simp [IntKind.bits]; omega])) rfl ?_
                refine g_v (v_maskU 1 rfl (shrU_bd hkeep _) (by decide) (by decide)) rfl ?_
                refine g_v (v_eql rfl rfl) rfl ?_
                refine g_nil ?_
                refine g_cond rfl (fun h108 => ?_) (fun h108 => ?_)
                · have hkb : kb keep D.wait.length = true := by unfold kb; simpa using h108
                  refine g_seq ?_
                  refine g_reg ?_
                  refine g_v (v_move rfl) rfl ?_
                  refine g_v (v_move rfl) rfl ?_
                  refine g_v (v_move rfl) rfl ?_
                  refine g_v (v_idxS i Try.underlying34 Try.sizeOf46 rfl rfl rfl hkn hkr) rfl ?_
                  refine g_v (v_fieldAdrS (j := i) 2 Try.underlying46 rfl rfl Try.sizeOf3 (by decide) rfl hkr) rfl ?_
                  refine g_v (v_loadS (v := I x.a) Try.isAgg3 rfl (actR_at hx) rfl) rfl ?_
                  refine g_l (l_call (Pre := [dsk 109 114 b22 (wroteD D x.a x.s)]) Try.call22 rfl (ct_disk_Read b22 (wroteD D x.a x.s) (x.a))) rfl ?_
                  rintro _ _ ⟨rfl, rfl⟩
                  rw [hread]
                  refine g_v (v_move rfl) rfl ?_
                  refine g_v (v_extract (v := Str (fullB x.s)) rfl rfl) rfl ?_
                  refine g_v (v_extract (v := errV 0) rfl rfl) rfl ?_
                  refine g_v (v_assign rfl) rfl ?_
                  refine g_v (v_assign rfl) rfl ?_
                  refine g_nil ?_
                  refine g_seq ?_
                  refine g_seq ?_
                  refine g_reg ?_
                  refine g_v (v_move rfl) rfl ?_
                  refine g_v (v_ineq Try.underlying29 rfl) rfl ?_
                  refine g_nil ?_
                  refine g_cond rfl (fun h120 => ?_) (fun h120 => ?_)
                  · simp at h120
                  · skip
                    refine g_skip ?_
                    refine g_reg ?_
                    refine g_v (v_move rfl) rfl ?_
                    refine g_v (v_move rfl) rfl ?_
                    refine g_v (v_idxS i Try.underlying34 Try.sizeOf46 rfl rfl rfl hkn hkr) rfl ?_
                    refine g_v (v_fieldAdrS (j := i) 2 Try.underlying46 rfl rfl Try.sizeOf3 (by decide) rfl hkr) rfl ?_
                    refine g_v (v_loadS (v := I x.a) Try.isAgg3 rfl (actR_at hx) rfl) rfl ?_
                    refine g_v (v_move rfl) rfl ?_
                    refine g_v (v_idxA x.a.toNat Try.underlying47 Try.sizeOf9 rfl rfl (by omega) (by omega)) rfl ?_
                    refine g_l0 (l_store (strA (restL keep (wroteD D x.a x.s))) Try.sizeOf9 rfl rfl rfl (by simp [strA, restL, restK_len, hok.1]; omega) (by rw [strA_set, rest_hit hkb])) ?_
                    rintro _ _ rfl
                    refine g_nil ?_
                    refine g_reg ?_
                    refine g_v (v_move rfl) rfl ?_
                    refine g_v (v_add rfl rfl (w64 (by omega))) rfl ?_
                    refine g_v (v_assign rfl) rfl ?_
                    refine g_nil ?_
                    refine g_blk ?_
                    refine g_reg ?_
                    refine g_v (v_move rfl) rfl ?_
                    refine g_v (v_add rfl rfl (w64 (by omega))) rfl ?_
                    refine g_v (v_assign rfl) rfl ?_
                    refine g_nil ?_
                    exact g_again (i + 1, wroteD D x.a x.s) ⟨by simp; omega, hok', hu⟩ (by simp; omega) [1, 2, 7, 10, 14, 15] rfl (by simp [U, wroteD])
                · have hkb : kb keep D.wait.length = false := by unfold kb; simpa using h108
                  refine g_skip ?_
                  refine g_reg ?_
                  refine g_v (v_move rfl) rfl ?_
                  refine g_v (v_add rfl rfl (w64 (by omega))) rfl ?_
                  refine g_v (v_assign rfl) rfl ?_
                  refine g_nil ?_
                  refine g_blk ?_
                  refine g_reg ?_
                  refine g_v (v_move rfl) rfl ?_
                  refine g_v (v_add rfl rfl (w64 (by omega))) rfl ?_
                  refine g_v (v_assign rfl) rfl ?_
                  refine g_nil ?_
                  rw [← rest_miss (D := D) (n := x.a) (s := x.s) hkb]
                  exact g_again (i + 1, wroteD D x.a x.s) ⟨by simp; omega, hok', hu⟩ (by simp; omega) [1, 2, 7, 10, 14, 15] rfl (by simp [U, wroteD])
            · simp at h88
              obtain rfl : i = m.length := by omega
              refine g_exit rfl ?_
              refine g_seq ?_
              refine g_reg ?_
              refine g_v (v_move rfl) rfl ?_
              refine g_v (v_move rfl) rfl ?_
              refine g_l (l_call (Pre := [dsk 109 114 b22 (D)]) Try.call23 rfl (ct_disk_Restart b22 D keep hkeep (by rw [hok.1, hok.2.1]) (fun t ht => by rw [hok.2.1]; exact hok.2.2.2.1 t ht) (by have := hok.2.2.2.2; omega))) rfl ?_
              rintro _ _ ⟨rfl, rfl⟩
              rw [show restD keep D = clean (restL keep D) from rfl]
              refine g_nil ?_
              refine g_seq ?_
              refine g_seq ?_
              refine g_reg ?_
              refine g_v (v_assign rfl) rfl ?_
              refine g_nil ?_
              refine g_block ?_
              refine g_loop (α := Nat) (fun k => k ≤ 4) (fun k => U [(7, ptr b22 0), (10, ptr b10 0), (18, I k)]) (fun k => pt b10 (.cells (strA (restL keep D)) 47 (0, 0)) :: dsk 109 114 b22 (clean (restL keep D)) :: acts s l f :: acts s' m f' :: F) (fun k => 4 - k) 0 (by simp) [7, 10, 18] rfl rfl ?_
              intro k hk
              refine g_seq ?_
              refine g_seq ?_
              refine g_reg ?_
              refine g_v (v_move rfl) rfl ?_
              refine g_v (v_lss rfl rfl) rfl ?_
              refine g_nil ?_
              refine g_cond rfl (fun h134 => ?_) (fun h134 => ?_)
              · simp at h134
                obtain ⟨x, hx⟩ : ∃ x, (restL keep D)[k]? = some x := ⟨_, List.getElem?_eq_getElem (by simp [restL, restK_len, hok.1]; omega)⟩
                have hread : readV (clean (restL keep D)) (k : Int) = (x, 0) := readV_in rfl (by show ¬ ((k : Int) < 0 ∨ ((restL keep D).length : Int) ≤ k); simp [restL, restK_len, hok.1]; omega) (by show (restL keep D)[(k : Int).toNat]? = some x; rw [Int.toNat_natCast]; exact hx)
                refine g_skip ?_
                refine g_seq ?_
                refine g_block ?_
                refine g_seq ?_
                refine g_reg ?_
                refine g_v (v_move rfl) rfl ?_
                refine g_v (v_move rfl) rfl ?_
                refine g_l (l_call (Pre := [dsk 109 114 b22 (clean (restL keep D))]) Try.call22 rfl (ct_disk_Read b22 (clean (restL keep D)) ((k : Int)))) rfl ?_
                rintro _ _ ⟨rfl, rfl⟩
                rw [hread]
                refine g_v (v_move rfl) rfl ?_
                refine g_v (v_extract (v := Str x) rfl rfl) rfl ?_
                refine g_v (v_extract (v := errV 0) rfl rfl) rfl ?_
                refine g_v (v_assign rfl) rfl ?_
                refine g_v (v_assign rfl) rfl ?_
                refine g_nil ?_
                refine g_seq ?_
                refine g_reg ?_
                refine g_v (v_move rfl) rfl ?_
                refine g_v (v_ineq Try.underlying29 rfl) rfl ?_
                refine g_v (v_move rfl) rfl ?_
                refine g_gv1 rfl rfl rfl (v_move rfl) rfl ?_
                refine g_gv1 rfl rfl rfl (v_move rfl) rfl ?_
                refine g_gv1 rfl rfl rfl (v_idxA k Try.underlying47 Try.sizeOf9 rfl rfl rfl (by omega)) rfl ?_
                refine g_gv1 rfl rfl rfl (v_load (v := Str x) Try.isAgg9 rfl (strA_at hx)) rfl ?_
                refine g_gv1 rfl rfl rfl (v_sneq rfl rfl) rfl ?_
                refine g_v (v_or rfl rfl) rfl ?_
                refine g_nil ?_
                refine g_cond rfl (fun h151 => ?_) (fun h151 => ?_)
                · simp at h151
                · skip
                  refine g_skip ?_
                  refine g_blk ?_
                  refine g_reg ?_
                  refine g_v (v_move rfl) rfl ?_
                  refine g_v (v_add rfl rfl (w64 (by omega))) rfl ?_
                  refine g_v (v_assign rfl) rfl ?_
                  refine g_nil ?_
                  exact g_again (k + 1) (by omega) (by omega) [7, 10, 18] rfl rfl
              · skip
                refine g_exit rfl ?_
                refine g_seq ?_
                refine g_reg ?_
                refine g_v (v_assign rfl) rfl ?_
                refine g_nil ?_
                refine g_ret1 rfl rfl ?_
                exact rfl

end Go.Proofs.Ythdjckbjjfiopab
