/- Walks through package vdisk: dropping snapshots, what changed. No condition. -/
import Derived.Test.YthdjckbjjfiopaaVd3
namespace Go.Proofs.Ythdjckbjjfiopaa
open Go.Sl Go.Proofs
set_option linter.unusedVariables false
set_option linter.unusedSimpArgs false
theorem ofM_or (m n : Nat → Bool) : ofM (orM (mk (ofM m)) (mk (ofM n))) = ofM (orM m n) := ofM_congr fun p hp => by
  unfold orM
  rw [mk_ofM m hp, mk_ofM n hp]
abbrev withD (s : SnapM) (m : Nat → Bool) : SnapM := ⟨s.id, s.time, s.size, s.blocks, m⟩
def preS (D : VdM) (i : Nat) : List SnapM := if i + 1 < D.snaps.length ∧ (snapAt D (i + 1)).time = (snapAt D i).time then D.snaps.set (i + 1) (withD (snapAt D (i + 1)) (orM (snapAt D (i + 1)).dirty (snapAt D i).dirty)) else D.snaps
def preM (D : VdM) (i : Nat) : Nat → Bool := if ¬ (i + 1 < D.snaps.length) ∧ D.time = (snapAt D i).time then orM D.dirty (snapAt D i).dirty else D.dirty
def drE (D : VdM) (id : Int) : Int := if findI D.snaps id < 0 then 5 else 0
def drD (D : VdM) (id : Int) : VdM := if findI D.snaps id < 0 then D else ⟨D.size, D.blocks, preM D (findI D.snaps id).toNat, D.time, D.next, (preS D (findI D.snaps id).toNat).eraseIdx (findI D.snaps id).toNat⟩
def chM (D : VdM) (i : Nat) : Nat → (Nat → Bool)
  | 0 => fun _ => false
  | c + 1 => orM (chM D i c) (snapAt D (i + 1 + c)).dirty
def chLo (D : VdM) (x y : Int) : Nat := if findI D.snaps y < findI D.snaps x then (findI D.snaps y).toNat else (findI D.snaps x).toNat
def chHi (D : VdM) (x y : Int) : Nat := if findI D.snaps x < findI D.snaps y then (findI D.snaps y).toNat else (findI D.snaps x).toNat
def chE (D : VdM) (x y : Int) : Int := if findI D.snaps x < 0 ∨ findI D.snaps y < 0 then 5 else if (snapAt D (chLo D x y)).time ≠ (snapAt D (chHi D x y)).time then 7 else 0
def chA (D : VdM) (x y : Int) : List Area := if chE D x y = 0 then ofM (chM D (chLo D x y) (chHi D x y - chLo D x y)) else []
theorem set_rows (gl : List (SnapM × Loc)) (j : Nat) (s : SnapM) (q : Loc) (m : Nat → Bool) (a : Option Addr) (c : Nat) : (snapR gl).set j ((encS (s, q)).set 19 (sl a (ofM m).length c)) = snapR (gl.set j (withD s m, (a, c))) := by
  simp only [snapR, List.map_set]
  rfl
theorem set_fst (gl : List (SnapM × Loc)) (j : Nat) (x : SnapM × Loc) : (gl.set j x).map Prod.fst = (gl.map Prod.fst).set j x.1 := by simp [List.map_set]
theorem erase_fst (gl : List (SnapM × Loc)) (j : Nat) : (gl.eraseIdx j).map Prod.fst = (gl.map Prod.fst).eraseIdx j := by simp [List.eraseIdx_eq_take_drop_succ]

theorem ct_vdisk_Drop (b : Nat) (D : VdM) (id : Int) (hsl : D.snaps.length ≤ 1000000) (F : List HProp) : Ct Try.prog 135 [ptr b 0, I id] ([vdk b (D)] ++ F) (R1 (errV (drE D id)) (vdk b (drD D id) :: F)) := by
  show Ct Try.prog 135 [ptr b 0, I id] (vdk b (D) :: F) _
  refine Ct.of Try.func135 rfl 99 Try.ntmps135 (by simp) fun w0 => ?_
  refine g_seq ?_
  refine g_reg ?_
  refine g_v (v_assign rfl) rfl ?_
  refine g_nil ?_
  refine g_seq ?_
  refine g_reg ?_
  refine g_v (v_move rfl) rfl ?_
  refine g_v (v_move rfl) rfl ?_
  refine g_l (l_call (Pre := [vdk b (D)]) Try.call142 rfl (ct_vdisk_find b D id (by omega))) rfl ?_
  rintro _ _ ⟨rfl, rfl⟩
  refine g_v (v_assign rfl) rfl ?_
  refine g_nil ?_
  refine g_seq ?_
  refine g_seq ?_
  refine g_reg ?_
  refine g_v (v_move rfl) rfl ?_
  refine g_v (v_lss rfl rfl) rfl ?_
  refine g_nil ?_
  refine g_cond rfl (fun h11 => ?_) (fun h11 => ?_)
  · simp at h11
    refine g_seq ?_
    refine g_reg ?_
    refine g_v (v_iface Try.underlying172 rfl rfl) rfl ?_
    refine g_v (v_assign rfl) rfl ?_
    refine g_nil ?_
    rw [show vdk b D = vdk b (drD D id) by unfold drD; rw [if_pos (by omega)]]
    exact g_ret1 rfl rfl (by rw [show drE D id = 5 by unfold drE; rw [if_pos (by omega)]]; rfl)
  · simp at h11
    obtain ⟨i, s, hfi, hs, hid, hil⟩ := findI_pos (show ¬ findI D.snaps id < 0 by omega)
    rw [hfi]
    refine g_openV b (D) ?_
    intro sd cd ss cs gl hgl
    have hln := gl_len hgl
    obtain ⟨q, hx⟩ := gl_at hgl hs
    have hkn : i < gl.length := by omega
    have hkr : i < (snapR gl).length := by rw [snapR_len]; exact hkn
    have hsi := snapAt_of hs
    refine g_skip ?_
    refine g_seq ?_
    refine g_reg ?_
    refine g_v (v_move rfl) rfl ?_
    refine g_v (v_nilCheck rfl) rfl ?_
    refine g_v (v_fieldAddr 20 Try.underlying193 rfl rfl Try.sizeOf191 (by decide) rfl) rfl ?_
    refine g_v (v_load (v := sl ss gl.length cs) Try.isAgg191 rfl rfl) rfl ?_
    refine g_v (v_move rfl) rfl ?_
    refine g_v (v_idxS i Try.underlying191 Try.sizeOf196 rfl rfl rfl hkn hkr) rfl ?_
    refine g_v (v_fieldAdrS (j := i) 19 Try.underlying196 rfl rfl Try.sizeOf22 (by decide) rfl hkr) rfl ?_
    refine g_v (v_loadS (v := sl q.1 (ofM s.dirty).length q.2) Try.isAgg22 rfl (snapR_at hx) rfl) rfl ?_
    refine g_v (v_assign rfl) rfl ?_
    refine g_nil ?_
    refine g_seq ?_
    refine g_seq ?_
    refine g_reg ?_
    refine g_v (v_move rfl) rfl ?_
    refine g_v (v_add rfl rfl (w64 (by omega))) rfl ?_
    refine g_v (v_move rfl) rfl ?_
    refine g_v (v_nilCheck rfl) rfl ?_
    refine g_v (v_fieldAddr 20 Try.underlying193 rfl rfl Try.sizeOf191 (by decide) rfl) rfl ?_
    refine g_v (v_load (v := sl ss gl.length cs) Try.isAgg191 rfl rfl) rfl ?_
    refine g_v (v_len Try.underlying191 rfl) rfl ?_
    refine g_v (v_lss rfl rfl) rfl ?_
    refine g_nil ?_
    refine g_cut (α := List (SnapM × Loc) × Option Addr × Nat) (fun z => z.1.map Prod.fst = preS D i) (fun z => U [(0, ptr b 0), (5, I i)]) (fun z => pt b (.cells (vdC D.size D.blocks (sl z.2.1 (ofM (preM D i)).length z.2.2) D.time D.next (sl ss z.1.length cs)) 193 (0, 0)) :: roL 2 z.2.1 (rowsA (ofM (preM D i))) :: owL 196 20 ss cs (snapR z.1) :: dirts z.1 :: F) ?_ ?_
    · skip
      refine g_cond rfl (fun h28 => ?_) (fun h28 => ?_)
      · simp at h28
        obtain ⟨s2, hs2⟩ : ∃ s2, D.snaps[i + 1]? = some s2 := ⟨_, List.getElem?_eq_getElem (by omega)⟩
        obtain ⟨q2, hx2⟩ := gl_at hgl hs2
        have hkn2 : i + 1 < gl.length := by omega
        have hkr2 : i + 1 < (snapR gl).length := by rw [snapR_len]; exact hkn2
        have hsi2 := snapAt_of hs2
        refine g_seq ?_
        refine g_drawL [(0, false), (1, false), (2, false), (3, false), (4, false), (5, false), (6, false), (7, false), (8, false), (9, false), (10, false), (11, false), (12, false), (13, false), (14, false), (15, false), (16, false), (17, false)] (by kernel_rfl) (by kernel_rfl) rfl (by kernel_rfl) ?_
        refine d_v rfl (v_move rfl) rfl ?_
        refine d_v rfl (v_nilCheck rfl) rfl ?_
        refine d_v rfl (v_fieldAddr 20 Try.underlying193 rfl rfl Try.sizeOf191 (by decide) rfl) rfl ?_
        refine d_v rfl (v_load (v := sl ss gl.length cs) Try.isAgg191 rfl rfl) rfl ?_
        refine d_v rfl (v_move rfl) rfl ?_
        refine d_v rfl (v_add rfl rfl (w64 (by omega))) rfl ?_
        refine d_v rfl (v_idxS (i + 1) Try.underlying191 Try.sizeOf196 rfl rfl rfl hkn2 hkr2) rfl ?_
        refine d_v rfl (v_fieldAdrS (j := (i + 1)) 1 Try.underlying196 rfl rfl Try.sizeOf3 (by decide) rfl hkr2) rfl ?_
        refine d_v rfl (v_loadS (v := I s2.time) Try.isAgg3 rfl (snapR_at hx2) rfl) rfl ?_
        refine d_v rfl (v_move rfl) rfl ?_
        refine d_v rfl (v_nilCheck rfl) rfl ?_
        refine d_v rfl (v_fieldAddr 20 Try.underlying193 rfl rfl Try.sizeOf191 (by decide) rfl) rfl ?_
        refine d_v rfl (v_load (v := sl ss gl.length cs) Try.isAgg191 rfl rfl) rfl ?_
        refine d_v rfl (v_move rfl) rfl ?_
        refine d_v rfl (v_idxS i Try.underlying191 Try.sizeOf196 rfl rfl rfl hkn hkr) rfl ?_
        refine d_v rfl (v_fieldAdrS (j := i) 1 Try.underlying196 rfl rfl Try.sizeOf3 (by decide) rfl hkr) rfl ?_
        refine d_v rfl (v_loadS (v := I s.time) Try.isAgg3 rfl (snapR_at hx) rfl) rfl ?_
        refine d_v rfl (v_eql rfl rfl) rfl ?_
        refine d_nil ?_
        refine g_cond rfl (fun h46 => ?_) (fun h46 => ?_)
        · simp at h46
          refine g_dirtsAt gl (x := (s2, q2)) (List.mem_of_getElem? hx2) ?_
          refine g_dirtsAt gl (x := (s, q)) (List.mem_of_getElem? hx) ?_
          refine g_drawZ (Lf := pt b (.cells (vdC ((D).size) ((D).blocks) (sl sd (ofM (D).dirty).length cd) ((D).time) ((D).next) (sl ss gl.length cs)) 193 (0, 0)) :: owL 196 20 ss cs (snapR gl) :: F) [(0, false), (1, false), (2, false), (3, false), (4, false), (5, false), (6, false), (7, false), (8, false), (9, false), (10, false), (11, false), (12, false), (13, false), (14, false), (15, false), (16, true), (17, false), (18, false)] 19 rfl (by kernel_rfl) (by kernel_rfl) rfl (by kernel_rfl) (by kernel_rfl) ?_
          refine d_v rfl (v_move rfl) rfl ?_
          refine d_v rfl (v_nilCheck rfl) rfl ?_
          refine d_v rfl (v_fieldAddr 20 Try.underlying193 rfl rfl Try.sizeOf191 (by decide) rfl) rfl ?_
          refine d_v rfl (v_load (v := sl ss gl.length cs) Try.isAgg191 rfl rfl) rfl ?_
          refine d_v rfl (v_move rfl) rfl ?_
          refine d_v rfl (v_add rfl rfl (w64 (by omega))) rfl ?_
          refine d_v rfl (v_move rfl) rfl ?_
          refine d_v rfl (v_nilCheck rfl) rfl ?_
          refine d_v rfl (v_fieldAddr 20 Try.underlying193 rfl rfl Try.sizeOf191 (by decide) rfl) rfl ?_
          refine d_v rfl (v_load (v := sl ss gl.length cs) Try.isAgg191 rfl rfl) rfl ?_
          refine d_v rfl (v_move rfl) rfl ?_
          refine d_v rfl (v_add rfl rfl (w64 (by omega))) rfl ?_
          refine d_v rfl (v_idxS (i + 1) Try.underlying191 Try.sizeOf196 rfl rfl rfl hkn2 hkr2) rfl ?_
          refine d_v rfl (v_fieldAdrS (j := (i + 1)) 19 Try.underlying196 rfl rfl Try.sizeOf22 (by decide) rfl hkr2) rfl ?_
          refine d_v rfl (v_loadS (v := sl q2.1 (ofM s2.dirty).length q2.2) Try.isAgg22 rfl (snapR_at hx2) rfl) rfl ?_
          refine d_v rfl (v_move rfl) rfl ?_
          refine d_l rfl (l_call (Pre := [roL 2 q2.1 (rowsA (ofM s2.dirty)), roL 2 q.1 (rowsA (ofM s.dirty))]) Try.call20 rfl (ct_area_Union (ofM s2.dirty) (ofM s.dirty) q2.1 q.1 q2.2 q.2 (ofM_len _) (ofM_len _) (okV_ofM _) (okV_ofM _))) rfl ?_
          rintro _ _ ⟨s63, c63, rfl, rfl⟩
          rw [ofM_or]
          refine d_v rfl (v_idxS (i + 1) Try.underlying191 Try.sizeOf196 rfl rfl rfl hkn2 hkr2) rfl ?_
          refine d_v rfl (v_fieldAdrS (j := (i + 1)) 19 Try.underlying196 rfl rfl Try.sizeOf22 (by decide) rfl hkr2) rfl ?_
          refine d_nil ?_
          refine g_l0 (l_storeS (row := encS (s2, q2)) (f := 19) Try.sizeOf22 rfl rfl rfl (snapR_at hx2) (by decide)) ?_
          rintro _ _ rfl
          rw [set_rows]
          refine g_freeze s63 ?_
          refine g_nil ?_
          rw [show gl.length = (gl.set (i + 1) (withD s2 (orM s2.dirty s.dirty), (s63, c63))).length by simp]
          refine g_dirtsAdd gl (gl.set (i + 1) (withD s2 (orM s2.dirty s.dirty), (s63, c63))) (withD s2 (orM s2.dirty s.dirty), (s63, c63)) (fun y hy => List.mem_or_eq_of_mem_set hy) ?_
          have hp : preM D i = D.dirty := by unfold preM; rw [if_neg (by omega)]
          exact g_here (gl.set (i + 1) (withD s2 (orM s2.dirty s.dirty), (s63, c63)), sd, cd) (by rw [set_fst, hgl]; unfold preS; rw [if_pos ⟨by omega, by rw [hsi, hsi2]; exact h46⟩, hsi, hsi2]) [0, 5] rfl rfl (SL := by simp only [hp]; infer_instance)
        · simp at h46
          refine g_skip ?_
          have hp : preM D i = D.dirty := by unfold preM; rw [if_neg (by omega)]
          exact g_here (gl, sd, cd) (by rw [hgl]; unfold preS; rw [if_neg (fun hh => h46 (by rw [hsi, hsi2] at hh; exact hh.2))]) [0, 5] rfl rfl (SL := by simp only [hp]; infer_instance)
      · simp at h28
        refine g_seq ?_
        refine g_drawL [(0, false), (1, false), (2, false), (3, false), (4, false), (5, false), (6, false), (7, false), (8, false), (9, false), (10, false), (11, false), (12, false)] (by kernel_rfl) (by kernel_rfl) rfl (by kernel_rfl) ?_
        refine d_v rfl (v_move rfl) rfl ?_
        refine d_v rfl (v_nilCheck rfl) rfl ?_
        refine d_v rfl (v_fieldAddr 18 Try.underlying193 rfl rfl Try.sizeOf3 (by decide) rfl) rfl ?_
        refine d_v rfl (v_load (v := I D.time) Try.isAgg3 rfl rfl) rfl ?_
        refine d_v rfl (v_move rfl) rfl ?_
        refine d_v rfl (v_nilCheck rfl) rfl ?_
        refine d_v rfl (v_fieldAddr 20 Try.underlying193 rfl rfl Try.sizeOf191 (by decide) rfl) rfl ?_
        refine d_v rfl (v_load (v := sl ss gl.length cs) Try.isAgg191 rfl rfl) rfl ?_
        refine d_v rfl (v_move rfl) rfl ?_
        refine d_v rfl (v_idxS i Try.underlying191 Try.sizeOf196 rfl rfl rfl hkn hkr) rfl ?_
        refine d_v rfl (v_fieldAdrS (j := i) 1 Try.underlying196 rfl rfl Try.sizeOf3 (by decide) rfl hkr) rfl ?_
        refine d_v rfl (v_loadS (v := I s.time) Try.isAgg3 rfl (snapR_at hx) rfl) rfl ?_
        refine d_v rfl (v_eql rfl rfl) rfl ?_
        refine d_nil ?_
        refine g_cond rfl (fun h78 => ?_) (fun h78 => ?_)
        · simp at h78
          refine g_dirtsAt gl (x := (s, q)) (List.mem_of_getElem? hx) ?_
          refine g_reg ?_
          refine g_v (v_move rfl) rfl ?_
          refine g_v (v_move rfl) rfl ?_
          refine g_v (v_nilCheck rfl) rfl ?_
          refine g_v (v_fieldAddr 17 Try.underlying193 rfl rfl Try.sizeOf22 (by decide) rfl) rfl ?_
          refine g_v (v_load (v := sl sd (ofM D.dirty).length cd) Try.isAgg22 rfl rfl) rfl ?_
          refine g_v (v_move rfl) rfl ?_
          refine g_l (l_call (Pre := [roL 2 sd (rowsA (ofM D.dirty)), roL 2 q.1 (rowsA (ofM s.dirty))]) Try.call20 rfl (ct_area_Union (ofM D.dirty) (ofM s.dirty) sd q.1 cd q.2 (ofM_len _) (ofM_len _) (okV_ofM _) (okV_ofM _))) rfl ?_
          rintro _ _ ⟨s85, c85, rfl, rfl⟩
          rw [ofM_or]
          refine g_freeze s85 ?_
          refine g_v (v_nilCheck rfl) rfl ?_
          refine g_v (v_fieldAddr 17 Try.underlying193 rfl rfl Try.sizeOf22 (by decide) rfl) rfl ?_
          refine g_l0 (l_store (vdC ((D).size) ((D).blocks) (sl s85 (ofM (orM D.dirty s.dirty)).length c85) ((D).time) ((D).next) (sl ss gl.length cs)) Try.sizeOf22 rfl rfl rfl (by rw [vdC_len]; decide) (vdC_dirty _ _ _ _ _ _ _)) ?_
          rintro _ _ rfl
          refine g_nil ?_
          have hp : preM D i = orM D.dirty s.dirty := by unfold preM; rw [if_pos ⟨by omega, by rw [hsi]; exact h78⟩, hsi]
          exact g_here (gl, s85, c85) (by rw [hgl]; unfold preS; rw [if_neg (by omega)]) [0, 5] rfl rfl (SL := by simp only [hp]; infer_instance)
        · simp at h78
          refine g_skip ?_
          have hp : preM D i = D.dirty := by unfold preM; rw [if_neg (fun hh => h78 (by rw [hsi] at hh; exact hh.2))]
          exact g_here (gl, sd, cd) (by rw [hgl]; unfold preS; rw [if_neg (by omega)]) [0, 5] rfl rfl (SL := by simp only [hp]; infer_instance)
    rintro ⟨gl', sd', cd'⟩ hgl'
    simp only [] at hgl' ⊢
    have hln' : gl'.length = D.snaps.length := by rw [← List.length_map (f := Prod.fst), hgl']; unfold preS; split <;> simp
    refine g_seq ?_
    refine g_reg ?_
    refine g_v (v_move rfl) rfl ?_
    refine g_v (v_move rfl) rfl ?_
    refine g_v (v_nilCheck rfl) rfl ?_
    refine g_v (v_fieldAddr 20 Try.underlying193 rfl rfl Try.sizeOf191 (by decide) rfl) rfl ?_
    refine g_v (v_load (v := sl ss gl'.length cs) Try.isAgg191 rfl rfl) rfl ?_
    refine g_v (v_move rfl) rfl ?_
    refine g_v (v_move rfl) rfl ?_
    refine g_v (v_add rfl rfl (w64 (by omega))) rfl ?_
    refine g_l (l_call (Pre := [owL 196 20 ss cs (snapR gl')]) Try.call185 rfl (ct_Delete_snap gl' ss cs i (by omega) (by omega))) rfl ?_
    rintro _ _ ⟨rfl, rfl⟩
    refine g_v (v_nilCheck rfl) rfl ?_
    refine g_v (v_fieldAddr 20 Try.underlying193 rfl rfl Try.sizeOf191 (by decide) rfl) rfl ?_
    refine g_l0 (l_store (vdC D.size D.blocks (sl sd' (ofM (preM D i)).length cd') D.time D.next (sl ss (gl'.length - 1) cs)) Try.sizeOf191 rfl rfl rfl (by rw [vdC_len]; decide) (vdC_snaps _ _ _ _ _ _ _)) ?_
    rintro _ _ rfl
    refine g_nil ?_
    refine g_seq ?_
    refine g_reg ?_
    refine g_v (v_assign rfl) rfl ?_
    refine g_nil ?_
    refine g_dirtsSub gl' (gl'.eraseIdx i) (fun x hx => List.mem_of_mem_eraseIdx hx) ?_
    refine g_shutV (vdC D.size D.blocks (sl sd' (ofM (preM D i)).length cd') D.time D.next (sl ss (gl'.length - 1) cs)) (rowsA (ofM (preM D i))) (snapR (gl'.eraseIdx i)) sd' cd' ss cs (gl'.eraseIdx i) b ⟨D.size, D.blocks, preM D i, D.time, D.next, (preS D i).eraseIdx i⟩ (by rw [List.length_eraseIdx, if_pos (by omega)]) rfl rfl (by rw [erase_fst, hgl']) ?_
    rw [show vdk b ⟨D.size, D.blocks, preM D i, D.time, D.next, (preS D i).eraseIdx i⟩ = vdk b (drD D id) by unfold drD; rw [if_neg (by omega), hfi, Int.toNat_natCast]]
    exact g_ret1 rfl rfl (by rw [show drE D id = 0 by unfold drE; rw [if_neg (by omega)]]; rfl)

theorem ct_vdisk_Changed (b : Nat) (D : VdM) (x y : Int) (hsl : D.snaps.length ≤ 1000000) (F : List HProp) : Ct Try.prog 52 [ptr b 0, I x, I y] ([vdk b (D)] ++ F) (RSf (fun v => .tuple #[v, errV (chE D x y)]) 170 2 (chA D x y).length (rowsA (chA D x y)) (vdk b (D) :: F)) := by
  show Ct Try.prog 52 [ptr b 0, I x, I y] (vdk b (D) :: F) _
  refine Ct.of Try.func52 rfl 67 Try.ntmps52 (by simp) fun w0 => ?_
  refine g_seq ?_
  refine g_reg ?_
  refine g_v (v_assign rfl) rfl ?_
  refine g_v (v_assign rfl) rfl ?_
  refine g_nil ?_
  refine g_seq ?_
  refine g_reg ?_
  refine g_v (v_move rfl) rfl ?_
  refine g_v (v_move rfl) rfl ?_
  refine g_l (l_call (Pre := [vdk b (D)]) Try.call142 rfl (ct_vdisk_find b D x (by omega))) rfl ?_
  rintro _ _ ⟨rfl, rfl⟩
  refine g_v (v_move rfl) rfl ?_
  refine g_v (v_move rfl) rfl ?_
  refine g_l (l_call (Pre := [vdk b (D)]) Try.call142 rfl (ct_vdisk_find b D y (by omega))) rfl ?_
  rintro _ _ ⟨rfl, rfl⟩
  refine g_v (v_assign rfl) rfl ?_
  refine g_v (v_assign rfl) rfl ?_
  refine g_nil ?_
  refine g_seq ?_
  refine g_seq ?_
  refine g_reg ?_
  refine g_v (v_move rfl) rfl ?_
  refine g_v (v_lss rfl rfl) rfl ?_
  refine g_v (v_move rfl) rfl ?_
  refine g_gv rfl rfl (fun hg => v_move rfl) rfl rfl ?_
  refine g_gv rfl rfl (fun hg => v_lss rfl rfl) rfl rfl ?_
  refine g_v (v_or rfl rfl) rfl ?_
  refine g_nil ?_
  refine g_cond rfl (fun h23 => ?_) (fun h23 => ?_)
  · simp at h23
    refine g_seq ?_
    refine g_reg ?_
    refine g_v (v_iface Try.underlying172 rfl rfl) rfl ?_
    refine g_v (v_assign rfl) rfl ?_
    refine g_v (v_assign rfl) rfl ?_
    refine g_nil ?_
    have hE : chE D x y = 5 := by unfold chE; rw [if_pos (by omega)]
    have hA : chA D x y = [] := by unfold chA; rw [if_neg (by omega)]
    refine g_nilown 170 2 (rowsA (chA D x y)) (by rw [hA]; rfl) ?_
    exact g_retSf (f := fun v => .tuple #[v, errV (chE D x y)]) rfl rfl (by rw [hA]) (by rw [hE]; rfl)
  · simp at h23
    refine g_skip ?_
    refine g_seq ?_
    obtain ⟨ia, sa, hfa, hsa, _, hla⟩ := findI_pos (show ¬ findI D.snaps x < 0 by omega)
    obtain ⟨ib, sb, hfb, hsb, _, hlb⟩ := findI_pos (show ¬ findI D.snaps y < 0 by omega)
    rw [hfa, hfb]
    refine g_reg ?_
    refine g_v (v_move rfl) rfl ?_
    refine g_v (v_move rfl) rfl ?_
    refine g_v (v_min rfl rfl) rfl ?_
    refine g_v (v_move rfl) rfl ?_
    refine g_v (v_move rfl) rfl ?_
    refine g_v (v_max rfl rfl) rfl ?_
    refine g_v (v_assign rfl) rfl ?_
    refine g_v (v_assign rfl) rfl ?_
    refine g_nil ?_
    refine g_seq ?_
    refine g_seq ?_
    rw [show (if (ib : Int) < ia then (ib : Int) else ia) = ((chLo D x y : Nat) : Int) by unfold chLo; rw [hfa, hfb]; split <;> simp, show (if (ia : Int) < ib then (ib : Int) else ia) = ((chHi D x y : Nat) : Int) by unfold chHi; rw [hfa, hfb]; split <;> simp]
    have hb1 : chLo D x y < D.snaps.length := by unfold chLo; rw [hfa, hfb]; split <;> rw [Int.toNat_natCast] <;> assumption
    have hb2 : chHi D x y < D.snaps.length := by unfold chHi; rw [hfa, hfb]; split <;> rw [Int.toNat_natCast] <;> assumption
    have hb3 : chLo D x y ≤ chHi D x y := by unfold chLo chHi; rw [hfa, hfb]; split <;> split <;> simp <;> omega
    generalize hlo : chLo D x y = lo at *
    generalize hhi : chHi D x y = hi at *
    refine g_openV b (D) ?_
    intro sd cd ss cs gl hgl
    have hln := gl_len hgl
    obtain ⟨s1, hs1⟩ : ∃ s, D.snaps[lo]? = some s := ⟨_, List.getElem?_eq_getElem hb1⟩
    obtain ⟨s2, hs2⟩ : ∃ s, D.snaps[hi]? = some s := ⟨_, List.getElem?_eq_getElem hb2⟩
    obtain ⟨q1, hx1⟩ := gl_at hgl hs1
    obtain ⟨q2, hx2⟩ := gl_at hgl hs2
    have hkl : lo < gl.length := by omega
    have hkh : hi < gl.length := by omega
    have hkrl : lo < (snapR gl).length := by rw [snapR_len]; exact hkl
    have hkrh : hi < (snapR gl).length := by rw [snapR_len]; exact hkh
    have hse1 := snapAt_of hs1
    have hse2 := snapAt_of hs2
    refine g_drawL [(0, false), (1, false), (2, false), (3, false), (4, false), (5, false), (6, false), (7, false), (8, false), (9, false), (10, false), (11, false), (12, false), (13, false), (14, false), (15, false), (16, false)] (by kernel_rfl) (by kernel_rfl) rfl (by kernel_rfl) ?_
    refine d_v rfl (v_move rfl) rfl ?_
    refine d_v rfl (v_nilCheck rfl) rfl ?_
    refine d_v rfl (v_fieldAddr 20 Try.underlying193 rfl rfl Try.sizeOf191 (by decide) rfl) rfl ?_
    refine d_v rfl (v_load (v := sl ss gl.length cs) Try.isAgg191 rfl rfl) rfl ?_
    refine d_v rfl (v_move rfl) rfl ?_
    refine d_v rfl (v_idxS lo Try.underlying191 Try.sizeOf196 rfl rfl rfl hkl hkrl) rfl ?_
    refine d_v rfl (v_fieldAdrS (j := lo) 1 Try.underlying196 rfl rfl Try.sizeOf3 (by decide) rfl hkrl) rfl ?_
    refine d_v rfl (v_loadS (v := I s1.time) Try.isAgg3 rfl (snapR_at hx1) rfl) rfl ?_
    refine d_v rfl (v_move rfl) rfl ?_
    refine d_v rfl (v_nilCheck rfl) rfl ?_
    refine d_v rfl (v_fieldAddr 20 Try.underlying193 rfl rfl Try.sizeOf191 (by decide) rfl) rfl ?_
    refine d_v rfl (v_load (v := sl ss gl.length cs) Try.isAgg191 rfl rfl) rfl ?_
    refine d_v rfl (v_move rfl) rfl ?_
    refine d_v rfl (v_idxS hi Try.underlying191 Try.sizeOf196 rfl rfl rfl hkh hkrh) rfl ?_
    refine d_v rfl (v_fieldAdrS (j := hi) 1 Try.underlying196 rfl rfl Try.sizeOf3 (by decide) rfl hkrh) rfl ?_
    refine d_v rfl (v_loadS (v := I s2.time) Try.isAgg3 rfl (snapR_at hx2) rfl) rfl ?_
    refine d_v rfl (v_neq rfl rfl) rfl ?_
    refine d_nil ?_
    refine g_cond rfl (fun h47 => ?_) (fun h47 => ?_)
    · simp at h47
      have hE : chE D x y = 7 := by unfold chE; rw [if_neg (by omega), hlo, hhi, hse1, hse2, if_pos h47]
      have hA : chA D x y = [] := by unfold chA; rw [if_neg (by omega)]
      refine g_seq ?_
      refine g_reg ?_
      refine g_v (v_iface Try.underlying172 rfl rfl) rfl ?_
      refine g_v (v_assign rfl) rfl ?_
      refine g_v (v_assign rfl) rfl ?_
      refine g_nil ?_
      refine g_shutV (vdC ((D).size) ((D).blocks) (sl sd (ofM (D).dirty).length cd) ((D).time) ((D).next) (sl ss gl.length cs)) (rowsA (ofM (D).dirty)) (snapR gl) sd cd ss cs (gl) b ((D)) rfl rfl rfl hgl ?_
      refine g_nilown 170 2 (rowsA (chA D x y)) (by rw [hA]; rfl) ?_
      exact g_retSf (f := fun v => .tuple #[v, errV (chE D x y)]) rfl rfl (by rw [hA]) (by rw [hE]; rfl)
    · simp at h47
      have hE : chE D x y = 0 := by unfold chE; rw [if_neg (by omega), hlo, hhi, hse1, hse2, if_neg (fun hh => hh h47)]
      have hA : chA D x y = ofM (chM D lo (hi - lo)) := by unfold chA; rw [if_pos hE, hlo, hhi]
      refine g_skip ?_
      refine g_seq ?_
      refine g_reg ?_
      refine g_v (v_assign rfl) rfl ?_
      refine g_nil ?_
      refine g_seq ?_
      refine g_seq ?_
      refine g_reg ?_
      refine g_v (v_move rfl) rfl ?_
      refine g_v (v_add rfl rfl (w64 (by omega))) rfl ?_
      refine g_v (v_assign rfl) rfl ?_
      refine g_nil ?_
      refine g_nilown 170 2 (rowsA (ofM (chM D lo 0))) rfl ?_
      refine g_block ?_
      refine g_loop (α := Nat × Option Addr × Nat) (fun z => z.1 ≤ hi - lo) (fun z => U [(0, ptr b 0), (9, I hi), (10, sl z.2.1 (ofM (chM D lo z.1)).length z.2.2), (11, I ((lo : Int) + 1 + z.1))]) (fun z => owL 170 2 z.2.1 z.2.2 (rowsA (ofM (chM D lo z.1))) :: pt b (.cells (vdC ((D).size) ((D).blocks) (sl sd (ofM (D).dirty).length cd) ((D).time) ((D).next) (sl ss gl.length cs)) 193 (0, 0)) :: roL 2 sd (rowsA (ofM D.dirty)) :: owL 196 20 ss cs (snapR gl) :: dirts gl :: F) (fun z => hi - lo - z.1) (0, none, 0) (by simp) [0, 9, 10, 11] rfl rfl ?_
      rintro ⟨c, s, cap⟩ hc
      simp only [] at hc ⊢
      refine g_seq ?_
      refine g_seq ?_
      refine g_reg ?_
      refine g_v (v_move rfl) rfl ?_
      refine g_v (v_move rfl) rfl ?_
      refine g_v (v_leq rfl rfl) rfl ?_
      refine g_nil ?_
      refine g_cond rfl (fun h53 => ?_) (fun h53 => ?_)
      · simp at h53
        refine g_skip ?_
        refine g_seq ?_
        refine g_block ?_
        obtain ⟨s3, hs3⟩ : ∃ s, D.snaps[lo + 1 + c]? = some s := ⟨_, List.getElem?_eq_getElem (by omega)⟩
        obtain ⟨q3, hx3⟩ := gl_at hgl hs3
        have hkc : lo + 1 + c < gl.length := by omega
        have hkrc : lo + 1 + c < (snapR gl).length := by rw [snapR_len]; exact hkc
        have hs3e := snapAt_of hs3
        refine g_freeze s ?_
        refine g_dirtsAt gl (x := (s3, q3)) (List.mem_of_getElem? hx3) ?_
        refine g_reg ?_
        refine g_v (v_move rfl) rfl ?_
        refine g_v (v_move rfl) rfl ?_
        refine g_v (v_nilCheck rfl) rfl ?_
        refine g_v (v_fieldAddr 20 Try.underlying193 rfl rfl Try.sizeOf191 (by decide) rfl) rfl ?_
        refine g_v (v_load (v := sl ss gl.length cs) Try.isAgg191 rfl rfl) rfl ?_
        refine g_v (v_move rfl) rfl ?_
        refine g_v (v_idxS (lo + 1 + c) Try.underlying191 Try.sizeOf196 rfl rfl (by omega) hkc hkrc) rfl ?_
        refine g_v (v_fieldAdrS (j := (lo + 1 + c)) 19 Try.underlying196 rfl rfl Try.sizeOf22 (by decide) rfl hkrc) rfl ?_
        refine g_v (v_loadS (v := sl q3.1 (ofM s3.dirty).length q3.2) Try.isAgg22 rfl (snapR_at hx3) rfl) rfl ?_
        refine g_l (l_call (Pre := [roL 2 s (rowsA (ofM (chM D lo c))), roL 2 q3.1 (rowsA (ofM s3.dirty))]) Try.call20 rfl (ct_area_Union (ofM (chM D lo c)) (ofM s3.dirty) s q3.1 cap q3.2 (ofM_len _) (ofM_len _) (okV_ofM _) (okV_ofM _))) rfl ?_
        rintro _ _ ⟨s65, c65, rfl, rfl⟩
        rw [ofM_or, show orM (chM D lo c) s3.dirty = chM D lo (c + 1) by rw [← hs3e]; rfl]
        refine g_v (v_assign rfl) rfl ?_
        refine g_nil ?_
        refine g_blk ?_
        refine g_reg ?_
        refine g_v (v_move rfl) rfl ?_
        refine g_v (v_add rfl rfl (w64 (by omega))) rfl ?_
        refine g_v (v_assign rfl) rfl ?_
        refine g_nil ?_
        exact g_again (c + 1, s65, c65) (by simp only []; omega) (by simp only []; omega) [0, 9, 10, 11] rfl (by simp [U]; try omega)
      · simp at h53
        obtain rfl : c = hi - lo := by omega
        refine g_exit rfl ?_
        refine g_seq ?_
        refine g_reg ?_
        refine g_v (v_move rfl) rfl ?_
        refine g_v (v_assign rfl) rfl ?_
        refine g_v (v_assign rfl) rfl ?_
        refine g_nil ?_
        refine g_shutV (vdC ((D).size) ((D).blocks) (sl sd (ofM (D).dirty).length cd) ((D).time) ((D).next) (sl ss gl.length cs)) (rowsA (ofM (D).dirty)) (snapR gl) sd cd ss cs (gl) b ((D)) rfl rfl rfl hgl ?_
        rw [← hA]
        exact g_retSf (f := fun v => .tuple #[v, errV (chE D x y)]) rfl rfl rfl (by rw [hE]; rfl)

end Go.Proofs.Ythdjckbjjfiopaa
