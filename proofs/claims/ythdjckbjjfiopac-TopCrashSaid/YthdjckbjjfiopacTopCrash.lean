/- The walk through the law TopCrash. No condition. -/
import Derived.Test.YthdjckbjjfiopacStT
import Derived.Test.YthdjckbjjfiopacStX
import Derived.Test.YthdjckbjjfiopacLgA
import Derived.Test.YthdjckbjjfiopacLight
import Derived.Test.YthdjckbjjfiopacTopNum
import Derived.Test.YthdjckbjjfiopacRowS
namespace Go.Proofs.Ythdjckbjjfiopac
open Go Go.Sl Go.Proofs
set_option linter.unusedVariables false
set_option linter.unusedSimpArgs false
def lightD (gl : LogG) (most : Int) : Bool := decide ((gl.length : Int) ≤ most) && gl.all fun x => lightC x.1 14
theorem fD_cal {N : Nat} (hN : 196 ≤ N ∧ N ≤ 260) : Cal N (fD N) hd1 [] [] 0 := fmt_cal hN (new_len N) (fD_run hN.1)
structure TCS where
  i : Nat
  D : DiskM
  h : HdM
  r0 : List ChangeM
  ds : Deeds
  used : Nat
  rows : List ChangeM
  bl : Nat
  ss : LocA
  sw : LocA
structure TCK where
  D : DiskM
  h : HdM
  r0 : List ChangeM
  ds : Deeds
  used : Nat
  bl : Nat
structure TCE where
  D : DiskM
  want : List ChangeM
  last : List ChangeM
  sw : LocA
  sl : LocA
theorem Cal.fuse {N : Nat} {D : DiskM} {h : HdM} {r0 : List ChangeM} {ds : Deeds} {used : Nat} (C : Cal N D h r0 ds used) (z : Int) : Cal N ⟨D.kept, D.now, D.wait, z, D.down⟩ h r0 ds used := ⟨C.1, C.2.1.now rfl, C.2.2⟩
theorem okW_fuse {N i j : Nat} {D : DiskM} {z : Int} (h : okW N i D) (hz : -1 ≤ z ∧ z ≤ 9223372036854775807) (hij : i ≤ j) : okW N j ⟨D.kept, D.now, D.wait, z, D.down⟩ := ⟨h.1, h.2.1, hz, h.2.2.2.1, Nat.le_trans h.2.2.2.2 hij⟩
theorem cm_nil {many : Nat} {rows : List ChangeM} (h : rows.length ≤ 80) (hm : 1 ≤ many) : cmV many rows [] = 0 := by
  unfold cmV
  rw [if_neg (by simp), if_neg (by simp [fltC]), if_neg]
  show ¬ (80 < rows.length ∨ many < 0 + 1)
  omega

theorem ct_T_lightDeeds (gl : LogG) (s : Option Addr) (cap : Nat) (most : Int) (hl : gl.length ≤ 9223372036854775807) (hls : ∀ x ∈ gl, x.1.length ≤ 9223372036854775807) (F : List HProp) : Ct Try.prog 31 [sl s gl.length cap, I most] ([roL 1 s (dR gl), dees gl] ++ F) (R1 (Bo (lightD gl most)) (roL 1 s (dR gl) :: dees gl :: F)) := by
  show Ct Try.prog 31 [sl s gl.length cap, I most] (roL 1 s (dR gl) :: dees gl :: F) _
  refine Ct.of Try.func31 rfl 22 Try.ntmps31 (by simp) fun w0 => ?_
  refine g_seq ?_
  refine g_reg ?_
  refine g_v (v_assign rfl) rfl ?_
  refine g_nil ?_
  refine g_seq ?_
  refine g_seq ?_
  refine g_reg ?_
  refine g_v (v_move rfl) rfl ?_
  refine g_v (v_len Try.underlying68 rfl) rfl ?_
  refine g_v (v_move rfl) rfl ?_
  refine g_v (v_gtr rfl rfl) rfl ?_
  refine g_nil ?_
  refine g_cond rfl (fun h9 => ?_) (fun h9 => ?_)
  · simp at h9
    refine g_seq ?_
    refine g_reg ?_
    refine g_v (v_assign rfl) rfl ?_
    refine g_nil ?_
    refine g_ret1 rfl rfl ?_
    show Bo false = _
    rw [show lightD gl most = false by unfold lightD; rw [decide_eq_false (by omega)]; rfl]
  · simp at h9
    refine g_skip ?_
    refine g_seq ?_
    refine g_seq ?_
    refine g_reg ?_
    refine g_v (v_assign rfl) rfl ?_
    refine g_nil ?_
    refine g_block ?_
    refine g_loop (α := Nat) (fun i => i ≤ gl.length ∧ (gl.take i).all (fun x => lightC x.1 14) = true) (fun i => U [(0, sl s gl.length cap), (5, I i)]) (fun _ => roL 1 s (dR gl) :: dees gl :: F) (fun i => gl.length - i) 0 (by simp) [0, 5] rfl rfl ?_
    rintro i ⟨hi, hall⟩
    refine g_seq ?_
    refine g_seq ?_
    refine g_reg ?_
    refine g_v (v_move rfl) rfl ?_
    refine g_v (v_move rfl) rfl ?_
    refine g_v (v_len Try.underlying68 rfl) rfl ?_
    refine g_v (v_lss rfl rfl) rfl ?_
    refine g_nil ?_
    refine g_cond rfl (fun h13 => ?_) (fun h13 => ?_)
    · simp at h13
      have hkn : i < gl.length := by omega
      obtain ⟨x, hx⟩ : ∃ x, gl[i]? = some x := ⟨_, List.getElem?_eq_getElem hkn⟩
      refine g_skip ?_
      refine g_seq ?_
      refine g_block ?_
      refine g_seq ?_
      refine g_deesAt gl (List.mem_of_getElem? hx) ?_
      refine g_reg ?_
      refine g_v (v_move rfl) rfl ?_
      refine g_v (v_move rfl) rfl ?_
      refine g_v (v_idxS i Try.underlying68 Try.sizeOf49 rfl rfl rfl hkn (by rw [dR_len]; exact hkn)) rfl ?_
      refine g_v (v_loadS0 (v := sl x.2.1 x.1.length x.2.2) Try.isAgg49 rfl (dR_at hx) rfl) rfl ?_
      refine g_l (l_call (Pre := [roL 3 x.2.1 (chR x.1)]) Try.call49 rfl (ct_L_LightChanges x.1 x.2.1 x.2.2 14 (hls x (List.mem_of_getElem? hx)))) rfl ?_
      rintro _ _ ⟨rfl, rfl⟩
      refine g_v (v_not rfl) rfl ?_
      refine g_nil ?_
      refine g_cond rfl (fun h21 => ?_) (fun h21 => ?_)
      · simp at h21
        refine g_seq ?_
        refine g_reg ?_
        refine g_v (v_assign rfl) rfl ?_
        refine g_nil ?_
        refine g_ret1 rfl rfl ?_
        show Bo false = _
        rw [show lightD gl most = false by unfold lightD; rw [all_miss hx (by simpa using h21)]; simp]
      · simp at h21
        refine g_skip ?_
        refine g_blk ?_
        refine g_reg ?_
        refine g_v (v_move rfl) rfl ?_
        refine g_v (v_add (r := ((i + 1 : Nat) : Int)) rfl rfl (by rw [show ((i : Nat) : Int) + 1 = ((i + 1 : Nat) : Int) by omega]; exact w64 (by omega))) rfl ?_
        refine g_v (v_assign rfl) rfl ?_
        refine g_nil ?_
        exact g_again (i + 1) ⟨by omega, take_all hall hx (by simpa using h21)⟩ (by omega) [0, 5] rfl rfl
    · simp at h13
      obtain rfl : i = gl.length := by omega
      rw [List.take_length] at hall
      refine g_exit rfl ?_
      refine g_seq ?_
      refine g_reg ?_
      refine g_v (v_assign rfl) rfl ?_
      refine g_nil ?_
      refine g_ret1 rfl rfl ?_
      show Bo true = _
      rw [show lightD gl most = true by unfold lightD; rw [hall, decide_eq_true (by omega)]; rfl]

theorem ct_T_stored  (F : List HProp) : Ct Try.prog 29 [] ([] ++ F) (R1 (Bo true) F) := by
  show Ct Try.prog 29 [] (F) _
  refine Ct.of Try.func29 rfl 37 Try.ntmps29 (by simp) fun w0 => ?_
  have fd_inv := fD_inv (N := 200) (by decide)
  refine g_seq ?_
  refine g_reg ?_
  refine g_v (v_assign rfl) rfl ?_
  refine g_nil ?_
  refine g_seq ?_
  refine g_reg ?_
  refine g_l (l_call (Pre := []) Try.call30 rfl (ct_L_Stored 200 (by decide))) rfl ?_
  rintro _ _ ⟨bd, bs, bl, s, cap, rfl, rfl⟩
  refine g_v (v_move rfl) rfl ?_
  refine g_v (v_extract (v := ptr bd 0) rfl rfl) rfl ?_
  refine g_v (v_extract (v := ptr bs 0) rfl rfl) rfl ?_
  refine g_v (v_extract (v := Bo true) rfl rfl) rfl ?_
  refine g_v (v_assign rfl) rfl ?_
  refine g_v (v_assign rfl) rfl ?_
  refine g_v (v_assign rfl) rfl ?_
  refine g_nil ?_
  refine g_seq ?_
  refine g_seq ?_
  refine g_reg ?_
  refine g_v (v_move rfl) rfl ?_
  refine g_v (v_not rfl) rfl ?_
  refine g_v (v_move rfl) rfl ?_
  refine g_gv1 rfl rfl rfl (v_move rfl) rfl ?_
  refine g_gv1 rfl rfl rfl (v_build rfl (bldKV [107] [120])) rfl ?_
  refine g_gl rfl rfl rfl (l_buildSlice [encC kxL] Try.underlying49 Try.sizeOf111 Try.zeroValue111 rfl rfl rfl (by decide) (by decide) (by decide)) rfl ?_
  rintro _ _ ⟨b16, rfl, rfl⟩
  refine g_freeze (T := 111) (cap := 1) (some ⟨b16, 0, none⟩) ?_
  rw [show [encC kxL] = chR [kxL] from rfl]
  refine g_gl rfl rfl rfl (l_call (Pre := [pt bs (.cells (stC bd (hd1) bl s ((cur [] []).length) cap) 123 (0, 0)), pt bl (.cells (lgC bd 122 (200 - 122) (hd1.first) (0)) 154 (0, 0)), dsk 117 135 bd (fD 200), roL 3 s (chR (cur [] [])), roL 3 (some ⟨b16, 0, none⟩) (chR [kxL])]) Try.call34 rfl (ct_store_Commit bs bd hd1 bl s cap (cur [] []) 200 300 0 (fD 200) (fD_ok (by decide)) (by decide) (fD_S80 (by decide)) (by decide) (by decide) (by decide) (fd_inv.good.okC) (by decide) (fd_inv.good.srtC) [kxL] (some ⟨b16, 0, none⟩) 1 (by decide))) rfl ?_
  rintro _ _ ⟨e, D2, h2, used2, rows2, bl2, s2, cap2, hcom, rfl, rfl⟩
  obtain ⟨c1, c2, c3, c4, c5, c6, c7, r2, d2, I2, hcur⟩ := com_up (fD_up (by decide)) (fD_S80 (by decide)) fd_inv (by decide) (by decide) hcom
  have hcm : cmV (200 - 122) (cur [] []) [kxL] = 0 := by decide
  rw [hcm] at c1
  subst c1
  have c6' : rows2.length = 1 := by rw [c6, if_pos hcm]; decide
  refine g_gv1 rfl rfl rfl (v_ineq Try.underlying33 rfl) rfl ?_
  refine g_v (v_or rfl rfl) rfl ?_
  refine g_nil ?_
  refine g_cond rfl (fun h19 => ?_) (fun h19 => ?_)
  · simp at h19
  · skip
    refine g_skip ?_
    refine g_seq ?_
    refine g_reg ?_
    refine g_v (v_move rfl) rfl ?_
    refine g_l (l_call (Pre := [dsk 117 135 bd (D2)]) Try.call37 rfl (ct_store_Open bd 200 (D2) (I2.len) (by omega) (c3.2.1) (h2) (r2) (d2) (used2) (fun _ _ _ => I2.good))) rfl ?_
    rintro _ _ (⟨hdn, _, _⟩ | ⟨_, h196, _, _⟩ | ⟨_, _, he0, _, _⟩ | ⟨_, _, _, bsb, blb, sob, cob, rfl, rfl⟩)
    · rw [(c2).1] at hdn; cases hdn
    · exact absurd h196 (by decide)
    · exact absurd he0 (inv_ep I2)
    refine g_v (v_move rfl) rfl ?_
    refine g_v (v_extract (v := ptr bsb 0) rfl rfl) rfl ?_
    refine g_v (v_extract (v := errV 0) rfl rfl) rfl ?_
    refine g_v (v_assign rfl) rfl ?_
    refine g_v (v_assign rfl) rfl ?_
    refine g_nil ?_
    refine g_seq ?_
    refine g_reg ?_
    refine g_v (v_move rfl) rfl ?_
    refine g_v (v_ieql Try.underlying33 rfl) rfl ?_
    refine g_v (v_move rfl) rfl ?_
    refine g_gv1 rfl rfl rfl (v_move rfl) rfl ?_
    refine g_gv1 rfl rfl rfl (v_pnnil Try.underlying70 rfl) rfl ?_
    refine g_v (v_and rfl rfl) rfl ?_
    refine g_v (v_move rfl) rfl ?_
    refine g_gv1 rfl rfl rfl (v_move rfl) rfl ?_
    refine g_gl rfl rfl rfl (l_call (Pre := [pt bsb (.cells (stC bd (h2) blb sob ((cur r2 d2).length) cob) 123 (0, 0)), roL 3 sob (chR (cur r2 d2))]) Try.call38 rfl (ct_store_Rows bsb bd h2 blb sob cob (cur r2 d2) (by have := I2.good.lenC; omega))) rfl ?_
    rintro _ _ ⟨s33, c33, rfl, rfl⟩
    rw [show (cur r2 d2).length = 1 by rw [hcur, c6']]
    refine g_gv1 rfl rfl rfl (v_len Try.underlying49 rfl) rfl ?_
    refine g_gv1 rfl rfl rfl (v_eql rfl rfl) rfl ?_
    refine g_v (v_and rfl rfl) rfl ?_
    refine g_v (v_assign rfl) rfl ?_
    refine g_nil ?_
    refine g_ret1 rfl rfl ?_
    show Bo _ = Bo true
    simp

theorem ct_T_TopCrash (gl : LogG) (s : Option Addr) (cap : Nat) (fuse keep : Int) (hl : gl.length ≤ 9223372036854775807) (hls : ∀ x ∈ gl, x.1.length ≤ 9223372036854775807) (hf : ok64 fuse) (hk : 0 ≤ keep ∧ keep < 18446744073709551616) (F : List HProp) : Ct Try.prog 7 [sl s gl.length cap, I fuse, Uw keep] ([deeA s gl] ++ F) (R1 (Bo true) (deeA s gl :: F)) := by
  show Ct Try.prog 7 [sl s gl.length cap, I fuse, Uw keep] (deeA s gl :: F) _
  refine Ct.of Try.func7 rfl 120 Try.ntmps7 (by simp) fun w0 => ?_
  refine g_deeA s gl ?_
  refine g_seq ?_
  refine g_reg ?_
  refine g_v (v_assign rfl) rfl ?_
  refine g_nil ?_
  refine g_seq ?_
  refine g_reg ?_
  refine g_l (l_call (Pre := []) Try.call29 rfl (ct_T_stored)) rfl ?_
  rintro _ _ ⟨rfl, rfl⟩
  refine g_v (v_assign rfl) rfl ?_
  refine g_nil ?_
  refine g_seq ?_
  refine g_seq ?_
  refine g_reg ?_
  refine g_v (v_move rfl) rfl ?_
  refine g_v (v_not rfl) rfl ?_
  refine g_nil ?_
  refine g_cond rfl (fun h20 => ?_) (fun h20 => ?_)
  · simp at h20
  · skip
    refine g_skip ?_
    refine g_seq ?_
    refine g_reg ?_
    refine g_l (l_call (Pre := []) Try.call30 rfl (ct_L_Stored 200 (by decide))) rfl ?_
    rintro _ _ ⟨bd, bs, bl0, s0, c0, rfl, rfl⟩
    refine g_v (v_move rfl) rfl ?_
    refine g_v (v_extract (v := ptr bd 0) rfl rfl) rfl ?_
    refine g_v (v_extract (v := ptr bs 0) rfl rfl) rfl ?_
    refine g_v (v_extract (v := Bo true) rfl rfl) rfl ?_
    refine g_v (v_assign rfl) rfl ?_
    refine g_v (v_assign rfl) rfl ?_
    refine g_v (v_assign rfl) rfl ?_
    refine g_nil ?_
    refine g_seq ?_
    refine g_seq ?_
    refine g_reg ?_
    refine g_v (v_move rfl) rfl ?_
    refine g_v (v_not rfl) rfl ?_
    refine g_nil ?_
    refine g_cond rfl (fun h27 => ?_) (fun h27 => ?_)
    · simp at h27
    · skip
      refine g_skip ?_
      refine g_seq ?_
      refine g_seq ?_
      refine g_reg ?_
      refine g_v (v_move rfl) rfl ?_
      refine g_l (l_call (Pre := [roL 1 s (dR gl), dees gl]) Try.call31 rfl (ct_T_lightDeeds gl s cap 20 hl hls)) rfl ?_
      rintro _ _ ⟨rfl, rfl⟩
      refine g_v (v_not rfl) rfl ?_
      refine g_nil ?_
      refine g_cond rfl (fun h30 => ?_) (fun h30 => ?_)
      · skip
        refine g_seq ?_
        refine g_reg ?_
        refine g_v (v_assign rfl) rfl ?_
        refine g_nil ?_
        refine g_ret1 rfl rfl ?_
        show Bo _ = Bo true
        simp
      · simp at h30
        have hg20 : gl.length ≤ 20 := by unfold lightD at h30; simp at h30; omega
        have hg14 : ∀ x ∈ gl, x.1.length ≤ 14 := fun x hx => by
          unfold lightD at h30
          simp only [Bool.and_eq_true, List.all_eq_true] at h30
          have := h30.2 x hx
          unfold lightC at this
          simp at this
          omega
        refine g_skip ?_
        refine g_seq ?_
        refine g_reg ?_
        refine g_v (v_assign rfl) rfl ?_
        refine g_v (v_assign rfl) rfl ?_
        refine g_nil ?_
        refine g_seq ?_
        refine g_reg ?_
        refine g_v (v_move rfl) rfl ?_
        refine g_v (v_move rfl) rfl ?_
        refine g_v (v_max rfl rfl) rfl ?_
        refine g_v (v_min rfl rfl) rfl ?_
        refine g_l (l_call (Pre := [dsk 117 135 bd (fD 200)]) Try.call32 rfl (ct_disk_Arm bd (fD 200) (if (400 : Int) < (if fuse < -1 then -1 else fuse) then 400 else (if fuse < -1 then -1 else fuse)))) rfl ?_
        rintro _ _ ⟨rfl, rfl⟩
        obtain ⟨fz, hfz⟩ : ∃ z : Int, (if (if (400 : Int) < (if fuse < -1 then -1 else fuse) then 400 else (if fuse < -1 then -1 else fuse)) < -1 then -1 else (if (400 : Int) < (if fuse < -1 then -1 else fuse) then 400 else (if fuse < -1 then -1 else fuse))) = z := ⟨_, rfl⟩
        have hfz1 : -1 ≤ fz ∧ fz ≤ 400 := by rw [← hfz]; (repeat' split) <;> omega
        rw [hfz]
        refine g_nil ?_
        refine g_seq ?_
        refine g_seq ?_
        have hCz := (fD_cal (N := 200) (by decide)).fuse fz
        have hSz := fD_S80 (N := 200) (by decide)
        have hoz : okW 200 (1000 + 600 * 0) ⟨(fD 200).kept, (fD 200).now, (fD 200).wait, fz, (fD 200).down⟩ := okW_fuse (fD_ok (N := 200) (by decide)) ⟨hfz1.1, by omega⟩ (by omega)
        generalize fD 200 = D0 at hCz hSz hoz ⊢
        refine g_nilro 3 (chR (cur [] [])) rfl ?_
        refine g_reg ?_
        refine g_v (v_assign rfl) rfl ?_
        refine g_nil ?_
        refine g_cut (α := TCE) (fun z => okW 200 20000 z.D ∧ S80 z.D ∧ z.want.length ≤ 80 ∧ z.last.length ≤ 200 ∧ Fell 200 z.D 1000 100000 (fun x => x = z.want ∨ x = z.last)) (fun z => U [(2, Uw keep), (8, ptr bd 0), (10, sl z.sw.1 z.want.length z.sw.2), (11, sl z.sl.1 z.last.length z.sl.2)]) (fun z => dsk 117 135 bd (z.D) :: roL 3 z.sw.1 (chR z.want) :: roL 3 z.sl.1 (chR z.last) :: deeA s gl :: F) ?_ ?_
        · skip
          refine g_block ?_
          refine g_loop (α := TCS) (fun z => z.i ≤ gl.length ∧ okW 200 (1000 + 600 * z.i) z.D ∧ S80 z.D ∧ Cal 200 z.D z.h z.r0 z.ds z.used ∧ z.h.ep ≤ 1 + 2 * z.i ∧ z.h.first ≤ 1 + 400 * z.i ∧ cur z.r0 z.ds = z.rows) (fun z => U [(0, sl s gl.length cap), (2, Uw keep), (8, ptr bd 0), (9, ptr bs 0), (10, sl z.sw.1 z.rows.length z.sw.2), (11, sl z.sw.1 z.rows.length z.sw.2), (12, I z.i)]) (fun z => pt bs (.cells (stC bd (z.h) z.bl z.ss.1 (z.rows.length) z.ss.2) 123 (0, 0)) :: pt z.bl (.cells (lgC bd 122 (200 - 122) (z.h.first) (z.used)) 154 (0, 0)) :: dsk 117 135 bd (z.D) :: roL 3 z.ss.1 (chR z.rows) :: roL 3 z.sw.1 (chR z.rows) :: roL 1 s (dR gl) :: dees gl :: deeA s gl :: F) (fun z => gl.length - z.i) (⟨0, ⟨D0.kept, D0.now, D0.wait, fz, D0.down⟩, hd1, [], [], 0, cur [] [], bl0, (s0, c0), (none, 0)⟩ : TCS) ⟨Nat.zero_le _, hoz, ⟨hSz.1, hSz.2.1, hSz.2.2⟩, hCz, Nat.le_refl 1, Nat.le_refl 1, rfl⟩ [0, 2, 8, 9, 10, 11, 12] rfl rfl ?_
          rintro ⟨i, D, h, r0, ds, used, rows, bl, ⟨ss, cs⟩, ⟨sw, cw⟩⟩ ⟨hi, hok, hS, C, hep, hfi, hcur⟩
          simp only [] at hi hok hS C hep hfi hcur ⊢
          subst hcur
          have hlc := C.2.1.good.lenC
          refine g_seq ?_
          refine g_seq ?_
          refine g_reg ?_
          refine g_v (v_move rfl) rfl ?_
          refine g_v (v_move rfl) rfl ?_
          refine g_v (v_len Try.underlying68 rfl) rfl ?_
          refine g_v (v_lss rfl rfl) rfl ?_
          refine g_nil ?_
          refine g_cond rfl (fun h39 => ?_) (fun h39 => ?_)
          · simp at h39
            have hkn : i < gl.length := by omega
            obtain ⟨x, hx⟩ : ∃ x, gl[i]? = some x := ⟨_, List.getElem?_eq_getElem hkn⟩
            have hx14 := hg14 x (List.mem_of_getElem? hx)
            refine g_skip ?_
            refine g_seq ?_
            refine g_block ?_
            refine g_seq ?_
            refine g_seq ?_
            refine g_reg ?_
            refine g_v (v_move rfl) rfl ?_
            refine g_v (v_rem (r := ((i % 5 : Nat) : Int)) rfl rfl (by decide) rfl) rfl ?_
            refine g_v (v_eql rfl rfl) rfl ?_
            refine g_nil ?_
            refine g_cut (α := TCK) (fun z => okW 200 (1000 + 600 * i + 100) z.D ∧ S80 z.D ∧ Cal 200 z.D z.h z.r0 z.ds z.used ∧ z.h.ep ≤ 2 + 2 * i ∧ z.h.first ≤ 201 + 400 * i ∧ cur z.r0 z.ds = (cur r0 ds)) (fun z => U [(0, sl s gl.length cap), (2, Uw keep), (8, ptr bd 0), (9, ptr bs 0), (10, sl sw (cur r0 ds).length cw), (11, sl sw (cur r0 ds).length cw), (12, I i)]) (fun z => pt bs (.cells (stC bd (z.h) z.bl ss ((cur r0 ds).length) cs) 123 (0, 0)) :: pt z.bl (.cells (lgC bd 122 (200 - 122) (z.h.first) (z.used)) 154 (0, 0)) :: dsk 117 135 bd (z.D) :: roL 3 ss (chR (cur r0 ds)) :: roL 3 sw (chR (cur r0 ds)) :: roL 1 s (dR gl) :: dees gl :: deeA s gl :: F) ?_ ?_
            · skip
              refine g_cond rfl (fun h44 => ?_) (fun h44 => ?_)
              · skip
                refine g_seq ?_
                refine g_reg ?_
                refine g_v (v_move rfl) rfl ?_
                refine g_l (l_call (Pre := [pt bs (.cells (stC bd (h) bl ss ((cur r0 ds).length) cs) 123 (0, 0)), pt bl (.cells (lgC bd 122 (200 - 122) (h.first) (used)) 154 (0, 0)), dsk 117 135 bd (D), roL 3 ss (chR (cur r0 ds))]) Try.call33 rfl (ct_store_Checkpoint bs bd h bl ss cs (cur r0 ds) 200 (1000 + 600 * i) used D hok (by omega) hS (by decide) ⟨by omega, C.2.1.good.side, C.2.1.good.first.1, by omega⟩ C.2.1.good.lenC C.2.1.good.okC)) rfl ?_
                rintro _ _ ⟨e, D1, hck, ⟨hne, rfl, rfl⟩ | ⟨h0, blc, dsc, usedc, hulc, hscc, rfl, rfl⟩⟩
                · have hsv := ck_s80 hok hS C.2.1 hck
                  obtain ⟨h0, _⟩ | ⟨h9, hfell⟩ := ck_crash C.1 C.2.1 (by omega) (by omega) hck
                  · exact absurd h0 hne
                  refine g_l (l_call (Pre := []) Try.call22 rfl (ct_T_numb e)) rfl ?_
                  rintro _ _ ⟨rfl, rfl⟩
                  refine g_v (v_eql rfl rfl) rfl ?_
                  refine g_nil ?_
                  refine g_cond rfl (fun h48 => ?_) (fun h48 => ?_)
                  · skip
                    refine g_exit rfl ?_
                    refine g_roDup (sz := 3) sw (chR (cur r0 ds)) ?_
                    exact g_here (⟨D1, (cur r0 ds), (cur r0 ds), (sw, cw), (sw, cw)⟩ : TCE) ⟨okW_le hsv.1 (by omega), hsv.2, hlc, Nat.le_trans hlc (by decide), hfell.mono (by omega) (by omega) (fun x hx => .inl hx)⟩ [2, 8, 10, 11] rfl rfl
                  · exfalso
                    rw [h9] at h48
                    simp at h48
                · subst h0
                  have hsv := ck_s80 hok hS C.2.1 hck
                  obtain ⟨_, C1⟩ | ⟨h9, _⟩ := ck_crash C.1 C.2.1 (by omega) (by omega) hck
                  rotate_left
                  · cases h9
                  have hlg := C1.2.1.good.log
                  rw [C1.2.1.len] at hlg
                  obtain rfl : 0 = usedc := (scan_pair hscc hlg).2.symm
                  rw [show h.first + (200 - 122) = (nxH h (cur r0 ds) (200 - 122)).first from rfl]
                  refine g_l (l_call (Pre := []) Try.call22 rfl (ct_T_numb 0)) rfl ?_
                  rintro _ _ ⟨rfl, rfl⟩
                  refine g_v (v_eql rfl rfl) rfl ?_
                  refine g_nil ?_
                  refine g_cond rfl (fun h48 => ?_) (fun h48 => ?_)
                  · simp at h48
                  · skip
                    refine g_skip ?_
                    exact g_here (⟨D1, nxH h (cur r0 ds) (200 - 122), (cur r0 ds), [], 0, blc⟩ : TCK) ⟨okW_le hsv.1 (by omega), hsv.2, C1, by simp only [nxH]; omega, by simp only [nxH]; omega, rfl⟩ [0, 2, 8, 9, 10, 11, 12] rfl rfl
              · skip
                refine g_skip ?_
                exact g_here (⟨D, h, r0, ds, used, bl⟩ : TCK) ⟨okW_le hok (by omega), hS, C, by simp only []; omega, by simp only []; omega, rfl⟩ [0, 2, 8, 9, 10, 11, 12] rfl rfl
            obtain ⟨rr, hrr⟩ : ∃ rr, (cur r0 ds) = rr := ⟨_, rfl⟩
            rw [hrr]
            clear C hok hS hep hfi hlc hrr
            rintro ⟨D, h, r0, ds, used, bl⟩ ⟨hok, hS, C, hep, hfi, hcur⟩
            simp only [] at hok hS C hep hfi hcur ⊢
            subst hcur
            have hlc := C.2.1.good.lenC
            refine g_seq ?_
            refine g_deesAt gl (List.mem_of_getElem? hx) ?_
            refine g_reg ?_
            refine g_v (v_move rfl) rfl ?_
            refine g_v (v_move rfl) rfl ?_
            refine g_v (v_move rfl) rfl ?_
            refine g_v (v_idxS i Try.underlying68 Try.sizeOf49 rfl rfl rfl hkn (by rw [dR_len]; exact hkn)) rfl ?_
            refine g_v (v_loadS0 (v := sl x.2.1 x.1.length x.2.2) Try.isAgg49 rfl (dR_at hx) rfl) rfl ?_
            refine g_l (l_call (Pre := [pt bs (.cells (stC bd (h) bl ss ((cur r0 ds).length) cs) 123 (0, 0)), pt bl (.cells (lgC bd 122 (200 - 122) (h.first) (used)) 154 (0, 0)), dsk 117 135 bd (D), roL 3 ss (chR (cur r0 ds)), roL 3 x.2.1 (chR x.1)]) Try.call34 rfl (ct_store_Commit bs bd h bl ss cs (cur r0 ds) 200 (1000 + 600 * i + 100) used D hok (by omega) hS (by decide) ⟨by omega, C.2.1.good.side, C.2.1.good.first.1, by omega⟩ C.2.1.good.lenC C.2.1.good.okC C.2.1.used_le C.2.1.good.srtC x.1 x.2.1 x.2.2 (hls x (List.mem_of_getElem? hx)))) rfl ?_
            rintro _ _ ⟨e, D2, h2, used2, rows2, bl2, s2, cap2, hcom, rfl, rfl⟩
            have hcr := com_cr C (by omega) (by omega) hcom
            have hok2 := com_ok hok hS C.2.1 hcom
            have hS2 := com_s80 hok hS C.2.1 hcom
            clear hcom
            refine g_v (v_assign rfl) rfl ?_
            refine g_nil ?_
            refine g_seq ?_
            refine g_seq ?_
            refine g_reg ?_
            refine g_v (v_move rfl) rfl ?_
            refine g_v (v_ieql Try.underlying33 rfl) rfl ?_
            refine g_nil ?_
            refine g_cond rfl (fun h56 => ?_) (fun h56 => ?_)
            · have he : e = 0 := by simpa using h56
              obtain ⟨_, m1, m2, r2, d2, C2, hcur2, hrw2⟩ | ⟨hx0, _⟩ | ⟨h9, _⟩ := hcr
              rotate_left
              · exact absurd he hx0
              · rw [he] at h9; cases h9
              subst hrw2
              refine g_seq ?_
              refine g_reg ?_
              refine g_v (v_move rfl) rfl ?_
              refine g_v (v_move rfl) rfl ?_
              refine g_v (v_move rfl) rfl ?_
              refine g_v (v_idxS i Try.underlying68 Try.sizeOf49 rfl rfl rfl hkn (by rw [dR_len]; exact hkn)) rfl ?_
              refine g_v (v_loadS0 (v := sl x.2.1 x.1.length x.2.2) Try.isAgg49 rfl (dR_at hx) rfl) rfl ?_
              refine g_l (l_call (Pre := [roL 3 sw (chR (cur r0 ds)), roL 3 x.2.1 (chR x.1)]) Try.call35 rfl (ct_R_Applied (cur r0 ds) x.1 sw x.2.1 cw x.2.2 C.2.1.good.srtC (by omega) (by omega))) rfl ?_
              rintro _ _ ⟨s62, c62, rfl, rfl⟩
              refine g_freeze (T := 111) (cap := c62) s62 ?_
              refine g_v (v_assign rfl) rfl ?_
              refine g_nil ?_
              refine g_seq ?_
              refine g_reg ?_
              refine g_v (v_move rfl) rfl ?_
              refine g_v (v_assign rfl) rfl ?_
              refine g_nil ?_
              refine g_exit rfl ?_
              refine g_reg ?_
              refine g_v (v_move rfl) rfl ?_
              refine g_v (v_add (r := ((i + 1 : Nat) : Int)) rfl rfl (by rw [show ((i : Nat) : Int) + 1 = ((i + 1 : Nat) : Int) by omega]; exact w64 (by omega))) rfl ?_
              refine g_v (v_assign rfl) rfl ?_
              refine g_nil ?_
              exact g_again (⟨i + 1, D2, h2, r2, d2, used2, (apsS (cur r0 ds) x.1), bl2, (s2, cap2), (s62, c62)⟩ : TCS) ⟨by simp only []; omega, okW_le hok2 (by simp only []; omega), hS2, C2, by simp only []; omega, by simp only []; omega, hcur2⟩ (by simp only []; omega) [0, 2, 8, 9, 10, 11, 12] rfl rfl
            · have he : ¬ e = 0 := by simpa using h56
              refine g_skip ?_
              refine g_seq ?_
              refine g_reg ?_
              refine g_v (v_move rfl) rfl ?_
              refine g_l (l_call (Pre := []) Try.call22 rfl (ct_T_numb e)) rfl ?_
              rintro _ _ ⟨rfl, rfl⟩
              refine g_v (v_eql rfl rfl) rfl ?_
              refine g_nil ?_
              refine g_cond rfl (fun h66 => ?_) (fun h66 => ?_)
              · have he9 : e = 9 := by simpa using h66
                obtain ⟨h0, _⟩ | ⟨_, hx9, _⟩ | ⟨_, hfell⟩ := hcr
                · exact absurd h0 he
                · exact absurd he9 hx9
                refine g_seq ?_
                refine g_reg ?_
                refine g_v (v_move rfl) rfl ?_
                refine g_v (v_move rfl) rfl ?_
                refine g_v (v_move rfl) rfl ?_
                refine g_v (v_idxS i Try.underlying68 Try.sizeOf49 rfl rfl rfl hkn (by rw [dR_len]; exact hkn)) rfl ?_
                refine g_v (v_loadS0 (v := sl x.2.1 x.1.length x.2.2) Try.isAgg49 rfl (dR_at hx) rfl) rfl ?_
                refine g_l (l_call (Pre := [roL 3 sw (chR (cur r0 ds)), roL 3 x.2.1 (chR x.1)]) Try.call35 rfl (ct_R_Applied (cur r0 ds) x.1 sw x.2.1 cw x.2.2 C.2.1.good.srtC (by omega) (by omega))) rfl ?_
                rintro _ _ ⟨s72, c72, rfl, rfl⟩
                refine g_freeze (T := 111) (cap := c72) s72 ?_
                refine g_v (v_assign rfl) rfl ?_
                refine g_nil ?_
                refine g_exit rfl ?_
                exact g_here (⟨D2, (cur r0 ds), (apsS (cur r0 ds) x.1), (sw, cw), (s72, c72)⟩ : TCE) ⟨okW_le hok2 (by omega), hS2, hlc, (by have := (srt_aps C.2.1.good.srtC x.1).2; simp only []; omega), hfell.mono (by omega) (by omega) (fun x hx => hx)⟩ [2, 8, 10, 11] rfl rfl
              · have he9 : ¬ e = 9 := by simpa using h66
                obtain ⟨h0, _⟩ | ⟨_, _, q1, q2, q3, q4⟩ | ⟨h9, _⟩ := hcr
                · exact absurd h0 he
                rotate_left
                · exact absurd h9 he9
                obtain rfl : D = D2 := q1.symm
                obtain rfl : h = h2 := q2.symm
                obtain rfl : used = used2 := q3.symm
                subst q4
                refine g_skip ?_
                refine g_blk ?_
                refine g_reg ?_
                refine g_v (v_move rfl) rfl ?_
                refine g_v (v_add (r := ((i + 1 : Nat) : Int)) rfl rfl (by rw [show ((i : Nat) : Int) + 1 = ((i + 1 : Nat) : Int) by omega]; exact w64 (by omega))) rfl ?_
                refine g_v (v_assign rfl) rfl ?_
                refine g_nil ?_
                exact g_again (⟨i + 1, D, h, r0, ds, used, (cur r0 ds), bl2, (s2, cap2), (sw, cw)⟩ : TCS) ⟨by simp only []; omega, okW_le hok (by simp only []; omega), hS, C, by simp only []; omega, by simp only []; omega, rfl⟩ (by simp only []; omega) [0, 2, 8, 9, 10, 11, 12] rfl rfl
          · skip
            refine g_exit rfl ?_
            refine g_roDup (sz := 3) sw (chR (cur r0 ds)) ?_
            exact g_here (⟨D, (cur r0 ds), (cur r0 ds), (sw, cw), (sw, cw)⟩ : TCE) ⟨okW_le hok (by omega), hS, hlc, Nat.le_trans hlc (by decide), (cal_rest C).mono (by omega) (by omega) (fun x hx => .inl hx)⟩ [2, 8, 10, 11] rfl rfl
        rintro ⟨D, want, last, ⟨sw, cw⟩, ⟨sn, cn⟩⟩ ⟨hok, hS, hwl, hll2, hfell⟩
        simp only [] at hok hS hwl hll2 hfell ⊢
        obtain ⟨h, r0, ds, used, iv, hphi, hep, hfi⟩ := hfell keep
        have hok1 := okW_le (okW_rest hok keep) (show 20000 + 1 ≤ 30000 by decide)
        have hS1 : S80 (restD keep D) := ⟨rest_80 hS.1 hS.2.2 _, rest_80 hS.1 hS.2.2 _, fun t ht => by cases ht⟩
        have hlc := iv.good.lenC
        refine g_seq ?_
        refine g_reg ?_
        refine g_v (v_move rfl) rfl ?_
        refine g_v (v_move rfl) rfl ?_
        refine g_l (l_call (Pre := [dsk 117 135 bd (D)]) Try.call36 rfl (ct_disk_Restart bd D keep hk (by rw [hok.1, hok.2.1]) (fun t ht => by rw [hok.2.1]; exact hok.2.2.2.1 t ht) (by have := hok.2.2.2.2; omega))) rfl ?_
        rintro _ _ ⟨rfl, rfl⟩
        refine g_nil ?_
        refine g_seq ?_
        refine g_reg ?_
        refine g_v (v_move rfl) rfl ?_
        refine g_l (l_call (Pre := [dsk 117 135 bd ((restD keep D))]) Try.call37 rfl (ct_store_Open bd 200 ((restD keep D)) (iv.len) (by omega) (hS1.2.1) (h) (r0) (ds) (used) (fun _ _ _ => iv.good))) rfl ?_
        rintro _ _ (⟨hdn, _, _⟩ | ⟨_, h196, _, _⟩ | ⟨_, _, he0, _, _⟩ | ⟨_, _, _, bsx, blx, sox, cox, rfl, rfl⟩)
        · rw [((show upW (restD keep D) from ⟨rfl, rfl⟩)).1] at hdn; cases hdn
        · exact absurd h196 (by decide)
        · exact absurd he0 (inv_ep iv)
        refine g_v (v_move rfl) rfl ?_
        refine g_v (v_extract (v := ptr bsx 0) rfl rfl) rfl ?_
        refine g_v (v_extract (v := errV 0) rfl rfl) rfl ?_
        refine g_v (v_assign rfl) rfl ?_
        refine g_v (v_assign rfl) rfl ?_
        refine g_nil ?_
        refine g_seq ?_
        refine g_seq ?_
        refine g_reg ?_
        refine g_v (v_move rfl) rfl ?_
        refine g_v (v_ineq Try.underlying33 rfl) rfl ?_
        refine g_v (v_move rfl) rfl ?_
        refine g_gv1 rfl rfl rfl (v_move rfl) rfl ?_
        refine g_gv1 rfl rfl rfl (v_pnil Try.underlying70 rfl) rfl ?_
        refine g_v (v_or rfl rfl) rfl ?_
        refine g_nil ?_
        refine g_cond rfl (fun h86 => ?_) (fun h86 => ?_)
        · simp at h86
        · skip
          refine g_skip ?_
          refine g_seq ?_
          refine g_reg ?_
          refine g_v (v_move rfl) rfl ?_
          refine g_l (l_call (Pre := [pt bsx (.cells (stC bd (h) blx sox ((cur r0 ds).length) cox) 123 (0, 0)), roL 3 sox (chR (cur r0 ds))]) Try.call38 rfl (ct_store_Rows bsx bd h blx sox cox (cur r0 ds) (by omega))) rfl ?_
          rintro _ _ ⟨s88, c88, rfl, rfl⟩
          refine g_freeze (T := 111) (cap := c88) s88 ?_
          refine g_v (v_assign rfl) rfl ?_
          refine g_nil ?_
          refine g_seq ?_
          refine g_seq ?_
          refine g_reg ?_
          refine g_v (v_move rfl) rfl ?_
          refine g_v (v_move rfl) rfl ?_
          refine g_l (l_call (Pre := [roL 3 s88 (chR ((cur r0 ds))), roL 3 sw (chR (want))]) (R := fun F => R1 (Bo (decide (((cur r0 ds)) = (want)))) (roL 3 s88 (chR ((cur r0 ds))) :: roL 3 sw (chR (want)) :: F)) Try.call39 rfl (ct_R_SameChanges ((cur r0 ds)) (want) s88 sw c88 cw (by omega) (by omega))) rfl ?_
          rintro _ _ ⟨rfl, rfl⟩
          refine g_v (v_not rfl) rfl ?_
          refine g_v (v_move rfl) rfl ?_
          refine g_gv rfl rfl (fun hg => v_move rfl) rfl rfl ?_
          refine g_gv rfl rfl (fun hg => v_move rfl) rfl rfl ?_
          refine g_gq rfl rfl (fun hg => l_call (Pre := [roL 3 s88 (chR ((cur r0 ds))), roL 3 sn (chR (last))]) (R := fun F => R1 (Bo (decide (((cur r0 ds)) = (last)))) (roL 3 s88 (chR ((cur r0 ds))) :: roL 3 sn (chR (last)) :: F)) Try.call39 rfl (ct_R_SameChanges ((cur r0 ds)) (last) s88 sn c88 cn (by omega) (by omega))) rfl rfl ?_
          refine g_gv rfl rfl (fun hg => v_not rfl) rfl rfl ?_
          refine g_v (v_and rfl rfl) rfl ?_
          refine g_nil ?_
          refine g_cond rfl (fun h98 => ?_) (fun h98 => ?_)
          · exfalso
            simp at h98
            rcases hphi with h' | h'
            · exact h98.1 h'
            · exact h98.2 h'
          · skip
            refine g_skip ?_
            refine g_seq ?_
            refine g_seq ?_
            refine g_nilro 3 (chR []) rfl ?_
            refine g_reg ?_
            refine g_v (v_move rfl) rfl ?_
            refine g_l (l_call (Pre := [pt bsx (.cells (stC bd (h) blx sox ((cur r0 ds).length) cox) 123 (0, 0)), pt blx (.cells (lgC bd 122 (200 - 122) (h.first) (used)) 154 (0, 0)), dsk 117 135 bd ((restD keep D)), roL 3 sox (chR (cur r0 ds)), roL 3 none (chR [])]) Try.call34 rfl (ct_store_Commit bsx bd h blx sox cox (cur r0 ds) 200 30000 used (restD keep D) hok1 (by decide) hS1 (by decide) ⟨by omega, iv.good.side, iv.good.first.1, by omega⟩ iv.good.lenC iv.good.okC iv.used_le iv.good.srtC [] none 0 (by decide))) rfl ?_
            rintro _ _ ⟨e, D2, h2, used2, rows2, bl2, s2, cap2, hcom, rfl, rfl⟩
            obtain ⟨c1, c2, c3, c4, c5, c6, c7, r2, d2, I2, hcur2⟩ := com_up (show upW (restD keep D) from ⟨rfl, rfl⟩) hS1 iv (by omega) (by omega) hcom
            have hok2 := okW_le (com_ok hok1 hS1 iv hcom) (show 30000 + 263 ≤ 31000 by decide)
            have hcm : cmV (200 - 122) (cur r0 ds) [] = 0 := cm_nil iv.good.lenC (by decide)
            rw [hcm] at c1
            subst c1
            rw [if_pos hcm] at c6
            subst hcur2
            have hsame : cur r2 d2 = (cur r0 ds) := c6
            refine g_v (v_ineq Try.underlying33 rfl) rfl ?_
            refine g_v (v_move rfl) rfl ?_
            refine g_gv1 rfl rfl rfl (v_move rfl) rfl ?_
            obtain ⟨D3', hr3, hu3, I3⟩ := up_ck c2 I2 (by omega) (by omega)
            refine g_gl rfl rfl rfl (l_call (Pre := [pt bsx (.cells (stC bd (h2) bl2 s2 ((cur r2 d2).length) cap2) 123 (0, 0)), pt bl2 (.cells (lgC bd 122 (200 - 122) (h2.first) (used2)) 154 (0, 0)), dsk 117 135 bd (D2), roL 3 s2 (chR (cur r2 d2))]) Try.call33 rfl (ct_store_Checkpoint bsx bd h2 bl2 s2 cap2 (cur r2 d2) 200 31000 used2 D2 hok2 (by decide) c3 (by decide) ⟨by omega, I2.good.side, I2.good.first.1, by omega⟩ I2.good.lenC I2.good.okC)) rfl ?_
            rintro _ _ ⟨e, D3, hck, ⟨hne, _, _⟩ | ⟨h0, blc, dsc, usedc, hulc, hscc, rfl, rfl⟩⟩
            · rw [hr3] at hck
              injection hck with q1 q2
              exact absurd q1.symm hne
            subst h0
            have hS3 := (ck_s80 hok2 c3 I2 hck).2
            rw [hr3] at hck
            injection hck with _ q2
            obtain rfl : D3 = D3' := q2.symm
            refine g_gv1 rfl rfl rfl (v_ineq Try.underlying33 rfl) rfl ?_
            refine g_v (v_or rfl rfl) rfl ?_
            refine g_nil ?_
            refine g_cond rfl (fun h106 => ?_) (fun h106 => ?_)
            · simp at h106
            · skip
              refine g_skip ?_
              refine g_seq ?_
              refine g_reg ?_
              refine g_v (v_move rfl) rfl ?_
              refine g_l (l_call (Pre := [dsk 117 135 bd (D3)]) Try.call37 rfl (ct_store_Open bd 200 (D3) (I3.len) (by omega) (hS3.2.1) ((nxH h2 (cur r2 d2) (200 - 122))) ((cur r2 d2)) ([]) (0) (fun _ _ _ => I3.good))) rfl ?_
              rintro _ _ (⟨hdn, _, _⟩ | ⟨_, h196, _, _⟩ | ⟨_, _, he0, _, _⟩ | ⟨_, _, _, bsy, bly, soy, coy, rfl, rfl⟩)
              · rw [(hu3).1] at hdn; cases hdn
              · exact absurd h196 (by decide)
              · exact absurd he0 (inv_ep I3)
              refine g_v (v_move rfl) rfl ?_
              refine g_v (v_extract (v := ptr bsy 0) rfl rfl) rfl ?_
              refine g_v (v_extract (v := errV 0) rfl rfl) rfl ?_
              refine g_v (v_assign rfl) rfl ?_
              refine g_v (v_assign rfl) rfl ?_
              refine g_nil ?_
              refine g_seq ?_
              refine g_reg ?_
              refine g_v (v_move rfl) rfl ?_
              refine g_v (v_ieql Try.underlying33 rfl) rfl ?_
              refine g_v (v_move rfl) rfl ?_
              refine g_gv1 rfl rfl rfl (v_move rfl) rfl ?_
              refine g_gl rfl rfl rfl (l_call (Pre := [pt bsy (.cells (stC bd ((nxH h2 (cur r2 d2) (200 - 122))) bly soy ((cur (cur r2 d2) []).length) coy) 123 (0, 0)), roL 3 soy (chR (cur (cur r2 d2) []))]) Try.call38 rfl (ct_store_Rows bsy bd (nxH h2 (cur r2 d2) (200 - 122)) bly soy coy (cur (cur r2 d2) []) (by have := I3.good.lenC; omega))) rfl ?_
              rintro _ _ ⟨s116, c116, rfl, rfl⟩
              refine g_freeze (T := 111) (cap := c116) s116 ?_
              refine g_gv1 rfl rfl rfl (v_move rfl) rfl ?_
              refine g_gl rfl rfl rfl (l_call (Pre := [roL 3 s116 (chR ((cur (cur r2 d2) []))), roL 3 s88 (chR ((cur r0 ds)))]) (R := fun F => R1 (Bo (decide (((cur (cur r2 d2) [])) = ((cur r0 ds))))) (roL 3 s116 (chR ((cur (cur r2 d2) []))) :: roL 3 s88 (chR ((cur r0 ds))) :: F)) Try.call39 rfl (ct_R_SameChanges ((cur (cur r2 d2) [])) ((cur r0 ds)) s116 s88 c116 c88 (by have := I3.good.lenC; omega) (by omega))) rfl ?_
              rintro _ _ ⟨rfl, rfl⟩
              rw [decide_eq_true (show cur (cur r2 d2) [] = (cur r0 ds) from hsame)]
              refine g_v (v_and rfl rfl) rfl ?_
              refine g_v (v_assign rfl) rfl ?_
              refine g_nil ?_
              refine g_ret1 rfl rfl ?_
              show Bo _ = Bo true
              simp

end Go.Proofs.Ythdjckbjjfiopac
