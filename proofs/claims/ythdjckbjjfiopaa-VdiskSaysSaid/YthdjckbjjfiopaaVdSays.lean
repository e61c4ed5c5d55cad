/- The walk through the law VdiskSays. No condition. -/
import Derived.Test.YthdjckbjjfiopaaVdTop
import Derived.Test.YthdjckbjjfiopaaVdRef2
namespace Go.Proofs.Ythdjckbjjfiopaa
open Go.Sl Go.Proofs
set_option linter.unusedVariables false
set_option linter.unusedSimpArgs false
def chgI (D : VdM) (x : ActM) : Int := if x.kind = kS then snI D else 0
def chgE (D : VdM) (x : ActM) : Int := if x.kind = kW then wrE D x.a x.s else if x.kind = kZ then rsE x.a else if x.kind = kS then snE D else if x.kind = kU then drE D x.a else 0
theorem chgE_nn (D : VdM) (x : ActM) : 0 ≤ chgE D x := by
  unfold chgE
  split
  · unfold wrE chkS; split; simp; split <;> simp
  · split
    · unfold rsE; split <;> simp
    · split
      · unfold snE; split <;> simp
      · split
        · unfold drE; split <;> simp
        · simp
theorem szS_nn (D : VdM) (a : Int) : 0 ≤ (szS D a).2 := by unfold szS; split <;> simp
theorem chE_nn (D : VdM) (x y : Int) : 0 ≤ chE D x y := by unfold chE; split; simp; split <;> simp
theorem arr_load {T : TypeId} {f : Nat × Nat} {vs : List Value} : ∀ k v, vs[k]? = some v → objCell (.cells vs.toArray T f) (0 + k) = some v := fun k v h => by simpa [objCell] using h
theorem kinds : kS ≠ kW ∧ kS ≠ kZ := by decide
theorem lenS (D : VdM) (x y : Int) : (chA D x y).length ≤ 1000000 := by unfold chA; split; exact ofM_len _; simp
def actV (x : ActM) : Prop := x.puts.length ≤ 9223372036854775807 ∧ x.changes.length ≤ 9223372036854775807

theorem ct_L_disks  (F : List HProp) : Ct Try.prog 42 [] ([] ++ F) (R1 (Bo true) F) := by
  show Ct Try.prog 42 [] (F) _
  refine Ct.of Try.func42 rfl 59 Try.ntmps42 (by simp) fun w0 => ?_
  refine g_seq ?_
  refine g_reg ?_
  refine g_v (v_assign rfl) rfl ?_
  refine g_nil ?_
  refine g_seq ?_
  refine g_reg ?_
  refine g_l (l_call (Pre := []) Try.call43 rfl (ct_vdisk_New 4)) rfl ?_
  rintro _ _ (⟨hno, _, _⟩ | ⟨_, b11, rfl, rfl⟩)
  · exact absurd (by decide) hno
  rw [show vdNew 4 = tk0 from rfl]
  refine g_v (v_move rfl) rfl ?_
  refine g_v (v_extract (v := ptr b11 0) rfl rfl) rfl ?_
  refine g_v (v_extract (v := errV 0) rfl rfl) rfl ?_
  refine g_v (v_assign rfl) rfl ?_
  refine g_v (v_assign rfl) rfl ?_
  refine g_nil ?_
  refine g_seq ?_
  refine g_seq ?_
  refine g_reg ?_
  refine g_v (v_move rfl) rfl ?_
  refine g_v (v_ineq Try.underlying26 rfl) rfl ?_
  refine g_v (v_move rfl) rfl ?_
  refine g_gv1 rfl rfl rfl (v_move rfl) rfl ?_
  refine g_gv1 rfl rfl rfl (v_pnil Try.underlying67 rfl) rfl ?_
  refine g_v (v_or rfl rfl) rfl ?_
  refine g_nil ?_
  refine g_cond rfl (fun h19 => ?_) (fun h19 => ?_)
  · simp at h19
  · skip
    refine g_skip ?_
    refine g_seq ?_
    refine g_reg ?_
    refine g_v (v_move rfl) rfl ?_
    refine g_l (l_call (Pre := [vdk b11 (tk0)]) Try.call132 rfl (ct_vdisk_Snap b11 tk0 (by decide) (by decide))) rfl ?_
    rintro _ _ ⟨rfl, rfl⟩
    rw [show snI tk0 = 1 by decide, show snE tk0 = 0 by decide, show snD tk0 = tk1 from rfl]
    refine g_v (v_move rfl) rfl ?_
    refine g_v (v_extract (v := I 1) rfl rfl) rfl ?_
    refine g_v (v_extract (v := errV 0) rfl rfl) rfl ?_
    refine g_v (v_assign rfl) rfl ?_
    refine g_v (v_assign rfl) rfl ?_
    refine g_nil ?_
    refine g_seq ?_
    refine g_reg ?_
    refine g_v (v_move rfl) rfl ?_
    refine g_l (l_call (Pre := [vdk b11 (tk1)]) Try.call133 rfl (ct_vdisk_Write b11 tk1 2 [120] (by decide))) rfl ?_
    rintro _ _ ⟨rfl, rfl⟩
    rw [show wrE tk1 2 [120] = 0 by decide, show wrD tk1 2 [120] = tk2 from rfl]
    refine g_v (v_assign rfl) rfl ?_
    refine g_nil ?_
    refine g_seq ?_
    refine g_reg ?_
    refine g_v (v_move rfl) rfl ?_
    refine g_l (l_call (Pre := [vdk b11 (tk2)]) Try.call132 rfl (ct_vdisk_Snap b11 tk2 (by decide) (by decide))) rfl ?_
    rintro _ _ ⟨rfl, rfl⟩
    rw [show snI tk2 = 2 by decide, show snE tk2 = 0 by decide, show snD tk2 = tk3 from rfl]
    refine g_v (v_move rfl) rfl ?_
    refine g_v (v_extract (v := I 2) rfl rfl) rfl ?_
    refine g_v (v_extract (v := errV 0) rfl rfl) rfl ?_
    refine g_v (v_assign rfl) rfl ?_
    refine g_v (v_assign rfl) rfl ?_
    refine g_nil ?_
    refine g_seq ?_
    refine g_reg ?_
    refine g_v (v_move rfl) rfl ?_
    refine g_v (v_move rfl) rfl ?_
    refine g_v (v_move rfl) rfl ?_
    refine g_l (l_call (Pre := [vdk b11 (tk3)]) Try.call52 rfl (ct_vdisk_Changed b11 tk3 1 2 (by decide))) rfl ?_
    rintro _ _ ⟨s36, c36, rfl, rfl⟩
    rw [tk_ch, show chE tk3 1 2 = 0 by decide]
    refine g_v (v_move rfl) rfl ?_
    refine g_v (v_extract (v := sl s36 tkA.length c36) rfl rfl) rfl ?_
    refine g_v (v_extract (v := errV 0) rfl rfl) rfl ?_
    refine g_v (v_assign rfl) rfl ?_
    refine g_v (v_assign rfl) rfl ?_
    refine g_nil ?_
    refine g_seq ?_
    refine g_reg ?_
    refine g_v (v_move rfl) rfl ?_
    refine g_l (l_call (Pre := []) Try.call14 rfl (ct_L_same (0) (0) (by decide))) rfl ?_
    rintro _ _ ⟨rfl, rfl⟩
    refine g_v (v_move rfl) rfl ?_
    refine g_gv1 rfl rfl rfl (v_move rfl) rfl ?_
    refine g_gl rfl rfl rfl (l_call (Pre := []) Try.call14 rfl (ct_L_same (0) (0) (by decide))) rfl ?_
    rintro _ _ ⟨rfl, rfl⟩
    refine g_v (v_and rfl rfl) rfl ?_
    refine g_v (v_move rfl) rfl ?_
    refine g_gv1 rfl rfl rfl (v_move rfl) rfl ?_
    refine g_gl rfl rfl rfl (l_call (Pre := []) Try.call14 rfl (ct_L_same (0) (0) (by decide))) rfl ?_
    rintro _ _ ⟨rfl, rfl⟩
    refine g_v (v_and rfl rfl) rfl ?_
    refine g_v (v_move rfl) rfl ?_
    refine g_gv1 rfl rfl rfl (v_move rfl) rfl ?_
    refine g_gl rfl rfl rfl (l_call (Pre := []) Try.call14 rfl (ct_L_same (0) (0) (by decide))) rfl ?_
    rintro _ _ ⟨rfl, rfl⟩
    refine g_v (v_and rfl rfl) rfl ?_
    refine g_v (v_move rfl) rfl ?_
    refine g_gv1 rfl rfl rfl (v_move rfl) rfl ?_
    refine g_gv1 rfl rfl rfl (v_build rfl (bld170_0_1 _ rfl _ rfl)) rfl ?_
    refine g_gl rfl rfl rfl (l_buildSlice (rowsA tkA) Try.underlying22 Try.sizeOf170 Try.zeroValue170 rfl rfl rfl (by simp [rowsA, encA, tkA]) (by decide) (by decide)) rfl ?_
    rintro _ _ ⟨b56, rfl, rfl⟩
    refine g_freeze s36 ?_
    refine g_freeze (some ⟨b56, 0, none⟩) ?_
    refine g_gl rfl rfl rfl (l_call (Pre := [roL 2 (s36) (rowsA (tkA)), roL 2 (some ⟨b56, 0, none⟩) (rowsA (tkA))]) Try.call19 rfl (ct_R_SameAreas (tkA) (tkA) (s36) (some ⟨b56, 0, none⟩) c36 1 (by decide) (by decide))) rfl ?_
    rintro _ _ ⟨rfl, rfl⟩
    refine g_v (v_and rfl rfl) rfl ?_
    refine g_v (v_assign rfl) rfl ?_
    refine g_nil ?_
    refine g_ret1 rfl rfl ?_
    show Bo _ = Bo true
    simp

theorem ct_L_changed (b : Nat) (D : VdM) (x : ActM) (z : ActZ) (i : Nat) (hok : vok i D) (hi : i ≤ 1000000) (F : List HProp) : Ct Try.prog 45 [ptr b 0, .agg (encAct x z).toArray] ([vdk b (D)] ++ F) (R1 (.tuple #[I (chgI D x), errV (chgE D x)]) (vdk b (chgD D x) :: F)) := by
  show Ct Try.prog 45 [ptr b 0, .agg (encAct x z).toArray] (vdk b (D) :: F) _
  refine Ct.of Try.func45 rfl 38 Try.ntmps45 (by simp) fun w0 => ?_
  refine g_seq ?_
  refine g_reg ?_
  refine g_l (l_box (encAct x z).toArray rfl rfl) rfl ?_
  rintro _ _ ⟨b3, rfl, rfl⟩
  refine g_v (v_assign rfl) rfl ?_
  refine g_v (v_assign rfl) rfl ?_
  refine g_nil ?_
  refine g_seq ?_
  refine g_seq ?_
  refine g_reg ?_
  refine g_v (v_fieldAddr 0 Try.underlying52 rfl rfl Try.sizeOf9 (by decide) rfl) rfl ?_
  refine g_v (v_load (v := Str x.kind) Try.isAgg9 rfl rfl) rfl ?_
  refine g_nil ?_
  refine g_block ?_
  refine g_seq ?_
  refine g_reg ?_
  refine g_v (v_seql rfl rfl) rfl ?_
  refine g_v (v_assign rfl) rfl ?_
  refine g_nil ?_
  refine g_cond rfl (fun h8 => ?_) (fun h8 => ?_)
  · simp at h8
    change x.kind = kW at h8
    refine g_seq ?_
    refine g_reg ?_
    refine g_v (v_move rfl) rfl ?_
    refine g_v (v_fieldAddr 2 Try.underlying52 rfl rfl Try.sizeOf3 (by decide) rfl) rfl ?_
    refine g_v (v_load (v := I x.a) Try.isAgg3 rfl rfl) rfl ?_
    refine g_v (v_fieldAddr 1 Try.underlying52 rfl rfl Try.sizeOf9 (by decide) rfl) rfl ?_
    refine g_v (v_load (v := Str x.s) Try.isAgg9 rfl rfl) rfl ?_
    refine g_l (l_call (Pre := [vdk b (D)]) Try.call133 rfl (ct_vdisk_Write b D x.a x.s hok.1.2)) rfl ?_
    rintro _ _ ⟨rfl, rfl⟩
    refine g_v (v_assign rfl) rfl ?_
    refine g_v (v_assign rfl) rfl ?_
    refine g_nil ?_
    rw [show vdk b (wrD D x.a x.s) = vdk b (chgD D x) by unfold chgD; rw [if_pos h8]]
    exact g_ret1 rfl rfl (by rw [show chgI D x = 0 by unfold chgI; rw [if_neg (fun hh => kinds.1 (hh.symm.trans h8))], show chgE D x = wrE D x.a x.s by unfold chgE; rw [if_pos h8]]; rfl)
  · simp at h8
    change ¬ x.kind = kW at h8
    refine g_seq ?_
    refine g_reg ?_
    refine g_v (v_seql rfl rfl) rfl ?_
    refine g_v (v_assign rfl) rfl ?_
    refine g_nil ?_
    refine g_cond rfl (fun h16 => ?_) (fun h16 => ?_)
    · simp at h16
      change x.kind = kZ at h16
      refine g_seq ?_
      refine g_reg ?_
      refine g_v (v_move rfl) rfl ?_
      refine g_v (v_fieldAddr 2 Try.underlying52 rfl rfl Try.sizeOf3 (by decide) rfl) rfl ?_
      refine g_v (v_load (v := I x.a) Try.isAgg3 rfl rfl) rfl ?_
      refine g_l (l_call (Pre := [vdk b (D)]) Try.call134 rfl (ct_vdisk_Resize b D x.a hok.1)) rfl ?_
      rintro _ _ ⟨rfl, rfl⟩
      refine g_v (v_assign rfl) rfl ?_
      refine g_v (v_assign rfl) rfl ?_
      refine g_nil ?_
      rw [show vdk b (rsD D x.a) = vdk b (chgD D x) by unfold chgD; rw [if_neg h8, if_pos h16]]
      exact g_ret1 rfl rfl (by rw [show chgI D x = 0 by unfold chgI; rw [if_neg (fun hh => kinds.2 (hh.symm.trans h16))], show chgE D x = rsE x.a by unfold chgE; rw [if_neg h8, if_pos h16]]; rfl)
    · simp at h16
      change ¬ x.kind = kZ at h16
      refine g_seq ?_
      refine g_reg ?_
      refine g_v (v_seql rfl rfl) rfl ?_
      refine g_v (v_assign rfl) rfl ?_
      refine g_nil ?_
      refine g_cond rfl (fun h22 => ?_) (fun h22 => ?_)
      · simp at h22
        change x.kind = kS at h22
        refine g_seq ?_
        refine g_reg ?_
        refine g_v (v_move rfl) rfl ?_
        refine g_l (l_call (Pre := [vdk b (D)]) Try.call132 rfl (ct_vdisk_Snap b D (by have := hok.2.2.2.1; omega) (by have := hok.2.1; omega))) rfl ?_
        rintro _ _ ⟨rfl, rfl⟩
        refine g_v (v_extract (v := I (snI D)) rfl rfl) rfl ?_
        refine g_v (v_extract (v := errV (snE D)) rfl rfl) rfl ?_
        refine g_v (v_assign rfl) rfl ?_
        refine g_v (v_assign rfl) rfl ?_
        refine g_nil ?_
        rw [show vdk b (snD D) = vdk b (chgD D x) by unfold chgD; rw [if_neg h8, if_neg h16, if_pos h22]]
        exact g_ret1 rfl rfl (by rw [show chgI D x = snI D by unfold chgI; rw [if_pos h22], show chgE D x = snE D by unfold chgE; rw [if_neg h8, if_neg h16, if_pos h22]]; rfl)
      · simp at h22
        change ¬ x.kind = kS at h22
        refine g_seq ?_
        refine g_reg ?_
        refine g_v (v_seql rfl rfl) rfl ?_
        refine g_v (v_assign rfl) rfl ?_
        refine g_nil ?_
        refine g_cond rfl (fun h28 => ?_) (fun h28 => ?_)
        · simp at h28
          change x.kind = kU at h28
          refine g_seq ?_
          refine g_reg ?_
          refine g_v (v_move rfl) rfl ?_
          refine g_v (v_fieldAddr 2 Try.underlying52 rfl rfl Try.sizeOf3 (by decide) rfl) rfl ?_
          refine g_v (v_load (v := I x.a) Try.isAgg3 rfl rfl) rfl ?_
          refine g_l (l_call (Pre := [vdk b (D)]) Try.call135 rfl (ct_vdisk_Drop b D x.a (by have := hok.2.2.2.1; omega))) rfl ?_
          rintro _ _ ⟨rfl, rfl⟩
          refine g_v (v_assign rfl) rfl ?_
          refine g_v (v_assign rfl) rfl ?_
          refine g_nil ?_
          rw [show vdk b (drD D x.a) = vdk b (chgD D x) by unfold chgD; rw [if_neg h8, if_neg h16, if_neg h22, if_pos h28]]
          exact g_ret1 rfl rfl (by rw [show chgI D x = 0 by unfold chgI; rw [if_neg h22], show chgE D x = drE D x.a by unfold chgE; rw [if_neg h8, if_neg h16, if_neg h22, if_pos h28]]; rfl)
        · simp at h28
          change ¬ x.kind = kU at h28
          refine g_seq ?_
          refine g_reg ?_
          refine g_v (v_seql rfl rfl) rfl ?_
          refine g_v (v_assign rfl) rfl ?_
          refine g_nil ?_
          refine g_cond rfl (fun h34 => ?_) (fun h34 => ?_)
          · simp at h34
            change x.kind = kF at h34
            refine g_reg ?_
            refine g_v (v_move rfl) rfl ?_
            refine g_l (l_call (Pre := [vdk b (D)]) Try.call136 rfl (ct_vdisk_Forget b D (by have := hok.2.2.1; omega))) rfl ?_
            rintro _ _ ⟨rfl, rfl⟩
            refine g_nil ?_
            refine g_blk ?_
            refine g_seq ?_
            refine g_reg ?_
            refine g_v (v_assign rfl) rfl ?_
            refine g_v (v_assign rfl) rfl ?_
            refine g_nil ?_
            rw [show vdk b (fgD D) = vdk b (chgD D x) by unfold chgD; rw [if_neg h8, if_neg h16, if_neg h22, if_neg h28, if_pos h34]]
            exact g_ret1 rfl rfl (by rw [show chgI D x = 0 by unfold chgI; rw [if_neg h22], show chgE D x = 0 by unfold chgE; rw [if_neg h8, if_neg h16, if_neg h22, if_neg h28]]; rfl)
          · simp at h34
            change ¬ x.kind = kF at h34
            refine g_skip ?_
            refine g_blk ?_
            refine g_seq ?_
            refine g_reg ?_
            refine g_v (v_assign rfl) rfl ?_
            refine g_v (v_assign rfl) rfl ?_
            refine g_nil ?_
            rw [show vdk b (D) = vdk b (chgD D x) by unfold chgD; rw [if_neg h8, if_neg h16, if_neg h22, if_neg h28, if_neg h34]]
            exact g_ret1 rfl rfl (by rw [show chgI D x = 0 by unfold chgI; rw [if_neg h22], show chgE D x = 0 by unfold chgE; rw [if_neg h8, if_neg h16, if_neg h22, if_neg h28]]; rfl)

theorem ct_L_changedRef (b : Nat) (D : VdM) (x : ActM) (z : ActZ) (i : Nat) (hok : vok i D) (hi : i ≤ 1000000) (F : List HProp) : Ct Try.prog 46 [ptr b 0, .agg (encAct x z).toArray] ([rvd b (D)] ++ F) (R1 (.tuple #[I (chgI D x), I (chgE D x)]) (rvd b (chgD D x) :: F)) := by
  show Ct Try.prog 46 [ptr b 0, .agg (encAct x z).toArray] (rvd b (D) :: F) _
  refine Ct.of Try.func46 rfl 38 Try.ntmps46 (by simp) fun w0 => ?_
  refine g_seq ?_
  refine g_reg ?_
  refine g_l (l_box (encAct x z).toArray rfl rfl) rfl ?_
  rintro _ _ ⟨b3, rfl, rfl⟩
  refine g_v (v_assign rfl) rfl ?_
  refine g_v (v_assign rfl) rfl ?_
  refine g_nil ?_
  refine g_seq ?_
  refine g_seq ?_
  refine g_reg ?_
  refine g_v (v_fieldAddr 0 Try.underlying52 rfl rfl Try.sizeOf9 (by decide) rfl) rfl ?_
  refine g_v (v_load (v := Str x.kind) Try.isAgg9 rfl rfl) rfl ?_
  refine g_nil ?_
  refine g_block ?_
  refine g_seq ?_
  refine g_reg ?_
  refine g_v (v_seql rfl rfl) rfl ?_
  refine g_v (v_assign rfl) rfl ?_
  refine g_nil ?_
  refine g_cond rfl (fun h8 => ?_) (fun h8 => ?_)
  · simp at h8
    change x.kind = kW at h8
    refine g_seq ?_
    refine g_reg ?_
    refine g_v (v_move rfl) rfl ?_
    refine g_v (v_fieldAddr 2 Try.underlying52 rfl rfl Try.sizeOf3 (by decide) rfl) rfl ?_
    refine g_v (v_load (v := I x.a) Try.isAgg3 rfl rfl) rfl ?_
    refine g_v (v_fieldAddr 1 Try.underlying52 rfl rfl Try.sizeOf9 (by decide) rfl) rfl ?_
    refine g_v (v_load (v := Str x.s) Try.isAgg9 rfl rfl) rfl ?_
    refine g_l (l_call (Pre := [rvd b (D)]) Try.call137 rfl (ct_R_VDisk_Write b D x.a x.s hok.1.2)) rfl ?_
    rintro _ _ ⟨rfl, rfl⟩
    refine g_v (v_assign rfl) rfl ?_
    refine g_v (v_assign rfl) rfl ?_
    refine g_nil ?_
    rw [show rvd b (wrD D x.a x.s) = rvd b (chgD D x) by unfold chgD; rw [if_pos h8]]
    exact g_ret1 rfl rfl (by rw [show chgI D x = 0 by unfold chgI; rw [if_neg (fun hh => kinds.1 (hh.symm.trans h8))], show chgE D x = wrE D x.a x.s by unfold chgE; rw [if_pos h8]]; rfl)
  · simp at h8
    change ¬ x.kind = kW at h8
    refine g_seq ?_
    refine g_reg ?_
    refine g_v (v_seql rfl rfl) rfl ?_
    refine g_v (v_assign rfl) rfl ?_
    refine g_nil ?_
    refine g_cond rfl (fun h16 => ?_) (fun h16 => ?_)
    · simp at h16
      change x.kind = kZ at h16
      refine g_seq ?_
      refine g_reg ?_
      refine g_v (v_move rfl) rfl ?_
      refine g_v (v_fieldAddr 2 Try.underlying52 rfl rfl Try.sizeOf3 (by decide) rfl) rfl ?_
      refine g_v (v_load (v := I x.a) Try.isAgg3 rfl rfl) rfl ?_
      refine g_l (l_call (Pre := [rvd b (D)]) Try.call138 rfl (ct_R_VDisk_Resize b D x.a hok.1)) rfl ?_
      rintro _ _ ⟨rfl, rfl⟩
      refine g_v (v_assign rfl) rfl ?_
      refine g_v (v_assign rfl) rfl ?_
      refine g_nil ?_
      rw [show rvd b (rsD D x.a) = rvd b (chgD D x) by unfold chgD; rw [if_neg h8, if_pos h16]]
      exact g_ret1 rfl rfl (by rw [show chgI D x = 0 by unfold chgI; rw [if_neg (fun hh => kinds.2 (hh.symm.trans h16))], show chgE D x = rsE x.a by unfold chgE; rw [if_neg h8, if_pos h16]]; rfl)
    · simp at h16
      change ¬ x.kind = kZ at h16
      refine g_seq ?_
      refine g_reg ?_
      refine g_v (v_seql rfl rfl) rfl ?_
      refine g_v (v_assign rfl) rfl ?_
      refine g_nil ?_
      refine g_cond rfl (fun h22 => ?_) (fun h22 => ?_)
      · simp at h22
        change x.kind = kS at h22
        refine g_seq ?_
        refine g_reg ?_
        refine g_v (v_move rfl) rfl ?_
        refine g_l (l_call (Pre := [rvd b (D)]) Try.call139 rfl (ct_R_VDisk_Snap b D (by have := hok.2.2.2.1; omega) (by have := hok.2.1; omega))) rfl ?_
        rintro _ _ ⟨rfl, rfl⟩
        refine g_v (v_extract (v := I (snI D)) rfl rfl) rfl ?_
        refine g_v (v_extract (v := I (snE D)) rfl rfl) rfl ?_
        refine g_v (v_assign rfl) rfl ?_
        refine g_v (v_assign rfl) rfl ?_
        refine g_nil ?_
        rw [show rvd b (snD D) = rvd b (chgD D x) by unfold chgD; rw [if_neg h8, if_neg h16, if_pos h22]]
        exact g_ret1 rfl rfl (by rw [show chgI D x = snI D by unfold chgI; rw [if_pos h22], show chgE D x = snE D by unfold chgE; rw [if_neg h8, if_neg h16, if_pos h22]]; rfl)
      · simp at h22
        change ¬ x.kind = kS at h22
        refine g_seq ?_
        refine g_reg ?_
        refine g_v (v_seql rfl rfl) rfl ?_
        refine g_v (v_assign rfl) rfl ?_
        refine g_nil ?_
        refine g_cond rfl (fun h28 => ?_) (fun h28 => ?_)
        · simp at h28
          change x.kind = kU at h28
          refine g_seq ?_
          refine g_reg ?_
          refine g_v (v_move rfl) rfl ?_
          refine g_v (v_fieldAddr 2 Try.underlying52 rfl rfl Try.sizeOf3 (by decide) rfl) rfl ?_
          refine g_v (v_load (v := I x.a) Try.isAgg3 rfl rfl) rfl ?_
          refine g_l (l_call (Pre := [rvd b (D)]) Try.call140 rfl (ct_R_VDisk_Drop b D x.a (by have := hok.2.2.2.1; omega))) rfl ?_
          rintro _ _ ⟨rfl, rfl⟩
          refine g_v (v_assign rfl) rfl ?_
          refine g_v (v_assign rfl) rfl ?_
          refine g_nil ?_
          rw [show rvd b (drD D x.a) = rvd b (chgD D x) by unfold chgD; rw [if_neg h8, if_neg h16, if_neg h22, if_pos h28]]
          exact g_ret1 rfl rfl (by rw [show chgI D x = 0 by unfold chgI; rw [if_neg h22], show chgE D x = drE D x.a by unfold chgE; rw [if_neg h8, if_neg h16, if_neg h22, if_pos h28]]; rfl)
        · simp at h28
          change ¬ x.kind = kU at h28
          refine g_seq ?_
          refine g_reg ?_
          refine g_v (v_seql rfl rfl) rfl ?_
          refine g_v (v_assign rfl) rfl ?_
          refine g_nil ?_
          refine g_cond rfl (fun h34 => ?_) (fun h34 => ?_)
          · simp at h34
            change x.kind = kF at h34
            refine g_reg ?_
            refine g_v (v_move rfl) rfl ?_
            refine g_l (l_call (Pre := [rvd b (D)]) Try.call141 rfl (ct_R_VDisk_Forget b D (by have := hok.2.2.1; omega))) rfl ?_
            rintro _ _ ⟨rfl, rfl⟩
            refine g_nil ?_
            refine g_blk ?_
            refine g_seq ?_
            refine g_reg ?_
            refine g_v (v_assign rfl) rfl ?_
            refine g_v (v_assign rfl) rfl ?_
            refine g_nil ?_
            rw [show rvd b (fgD D) = rvd b (chgD D x) by unfold chgD; rw [if_neg h8, if_neg h16, if_neg h22, if_neg h28, if_pos h34]]
            exact g_ret1 rfl rfl (by rw [show chgI D x = 0 by unfold chgI; rw [if_neg h22], show chgE D x = 0 by unfold chgE; rw [if_neg h8, if_neg h16, if_neg h22, if_neg h28]]; rfl)
          · simp at h34
            change ¬ x.kind = kF at h34
            refine g_skip ?_
            refine g_blk ?_
            refine g_seq ?_
            refine g_reg ?_
            refine g_v (v_assign rfl) rfl ?_
            refine g_v (v_assign rfl) rfl ?_
            refine g_nil ?_
            rw [show rvd b (D) = rvd b (chgD D x) by unfold chgD; rw [if_neg h8, if_neg h16, if_neg h22, if_neg h28, if_neg h34]]
            exact g_ret1 rfl rfl (by rw [show chgI D x = 0 by unfold chgI; rw [if_neg h22], show chgE D x = 0 by unfold chgE; rw [if_neg h8, if_neg h16, if_neg h22, if_neg h28]]; rfl)

theorem ct_L_VdiskSays (n : Int) (l : List ActM) (f : Nat → ActZ) (s : Option Addr) (cap : Nat) (hn : ok64 n) (hl : l.length ≤ 9223372036854775807) (hla : ∀ x ∈ l, actV x) (F : List HProp) : Ct Try.prog 5 [I n, sl s l.length cap] ([acts s l f] ++ F) (R1 (Bo true) (acts s l f :: F)) := by
  show Ct Try.prog 5 [I n, sl s l.length cap] (acts s l f :: F) _
  refine Ct.of Try.func5 rfl 215 Try.ntmps5 (by simp) fun w0 => ?_
  refine g_seq ?_
  refine g_reg ?_
  refine g_v (v_assign rfl) rfl ?_
  refine g_nil ?_
  refine g_seq ?_
  refine g_reg ?_
  refine g_l (l_call (Pre := []) Try.call42 rfl (ct_L_disks)) rfl ?_
  rintro _ _ ⟨rfl, rfl⟩
  refine g_v (v_assign rfl) rfl ?_
  refine g_nil ?_
  refine g_seq ?_
  refine g_seq ?_
  refine g_reg ?_
  refine g_v (v_move rfl) rfl ?_
  refine g_v (v_not rfl) rfl ?_
  refine g_v (v_move rfl) rfl ?_
  refine g_gv1 rfl rfl rfl (v_move rfl) rfl ?_
  refine g_gl rfl rfl rfl (l_call (Pre := [acts s l f]) Try.call28 rfl (ct_L_LightActs l f s cap 80 hl hla)) rfl ?_
  rintro _ _ ⟨rfl, rfl⟩
  refine g_gv1 rfl rfl rfl (v_not rfl) rfl ?_
  refine g_v (v_or rfl rfl) rfl ?_
  refine g_nil ?_
  refine g_cond rfl (fun h31 => ?_) (fun h31 => ?_)
  · skip
    refine g_seq ?_
    refine g_reg ?_
    refine g_v (v_move rfl) rfl ?_
    refine g_v (v_assign rfl) rfl ?_
    refine g_nil ?_
    refine g_ret1 rfl rfl ?_
    exact rfl
  · simp at h31
    have hll : l.length ≤ 80 := by unfold lightA at h31; simp at h31; omega
    refine g_skip ?_
    refine g_seq ?_
    refine g_reg ?_
    refine g_v (v_move rfl) rfl ?_
    by_cases hns : 1 ≤ n ∧ n ≤ 16
    · skip
      refine g_l (l_call (Pre := []) Try.call43 rfl (ct_vdisk_New n)) rfl ?_
      rintro _ _ (⟨hno, _, _⟩ | ⟨_, b35, rfl, rfl⟩)
      · exact absurd hns hno
      show G _ _ _ (vdk b35 (vdNew n) :: acts s l f :: F)
      refine g_v (v_move rfl) rfl ?_
      refine g_v (v_extract (v := ptr b35 0) rfl rfl) rfl ?_
      refine g_v (v_extract (v := errV 0) rfl rfl) rfl ?_
      refine g_v (v_assign rfl) rfl ?_
      refine g_v (v_assign rfl) rfl ?_
      refine g_nil ?_
      refine g_seq ?_
      refine g_reg ?_
      refine g_v (v_move rfl) rfl ?_
      refine g_l (l_call (Pre := []) Try.call44 rfl (ct_R_NewVDisk n)) rfl ?_
      rintro _ _ (⟨hno, _, _⟩ | ⟨_, b40, rfl, rfl⟩)
      · exact absurd hns hno
      show G _ _ _ (rvd b40 (vdNew n) :: vdk b35 (vdNew n) :: acts s l f :: F)
      refine g_v (v_move rfl) rfl ?_
      refine g_v (v_extract (v := ptr b40 0) rfl rfl) rfl ?_
      refine g_v (v_extract (v := I 0) rfl rfl) rfl ?_
      refine g_v (v_assign rfl) rfl ?_
      refine g_v (v_assign rfl) rfl ?_
      refine g_nil ?_
      refine g_seq ?_
      refine g_seq ?_
      refine g_reg ?_
      refine g_v (v_move rfl) rfl ?_
      refine g_v (v_gtr rfl rfl) rfl ?_
      refine g_nil ?_
      refine g_cond rfl (fun h44 => ?_) (fun h44 => ?_)
      · simp at h44
      · skip
        refine g_skip ?_
        refine g_seq ?_
        refine g_seq ?_
        refine g_reg ?_
        refine g_v (v_move rfl) rfl ?_
        refine g_v (v_ineq Try.underlying26 rfl) rfl ?_
        refine g_v (v_move rfl) rfl ?_
        refine g_gv1 rfl rfl rfl (v_move rfl) rfl ?_
        refine g_gv1 rfl rfl rfl (v_pnil Try.underlying67 rfl) rfl ?_
        refine g_v (v_or rfl rfl) rfl ?_
        refine g_nil ?_
        refine g_cond rfl (fun h57 => ?_) (fun h57 => ?_)
        · simp at h57
        · skip
          refine g_skip ?_
          refine g_seq ?_
          refine g_seq ?_
          refine g_reg ?_
          refine g_v (v_assign rfl) rfl ?_
          refine g_nil ?_
          refine g_block ?_
          refine g_loop (α := Nat × VdM) (fun z => z.1 ≤ l.length ∧ vok z.1 z.2) (fun z => U [(1, sl s l.length cap), (6, ptr b35 0), (8, ptr b40 0), (10, I z.1)]) (fun z => vdk b35 (z.2) :: rvd b40 (z.2) :: acts s l f :: F) (fun z => l.length - z.1) (0, vdNew n) ⟨by simp, vok_new hns⟩ [1, 6, 8, 10] rfl rfl ?_
          rintro ⟨i, D⟩ ⟨hi, hok⟩
          simp only [] at hi hok ⊢
          refine g_seq ?_
          refine g_seq ?_
          refine g_reg ?_
          refine g_v (v_move rfl) rfl ?_
          refine g_v (v_move rfl) rfl ?_
          refine g_v (v_len Try.underlying39 rfl) rfl ?_
          refine g_v (v_lss rfl rfl) rfl ?_
          refine g_nil ?_
          refine g_cond rfl (fun h61 => ?_) (fun h61 => ?_)
          · simp at h61
            have hkn : i < l.length := by omega
            obtain ⟨x, hx⟩ : ∃ x, l[i]? = some x := ⟨_, List.getElem?_eq_getElem hkn⟩
            have hkr : i < (actR l f).length := by rw [actR_len]; exact hkn
            refine g_skip ?_
            refine g_seq ?_
            refine g_block ?_
            refine g_seq ?_
            refine g_reg ?_
            refine g_v (v_move rfl) rfl ?_
            refine g_v (v_move rfl) rfl ?_
            refine g_v (v_idxS i Try.underlying39 Try.sizeOf52 rfl rfl rfl hkn hkr) rfl ?_
            refine g_v (v_loadAS (row := encAct x (f i)) Try.isAgg52 Try.sizeOf52 rfl (actR_at hx) rfl) rfl ?_
            refine g_l (l_alloc #[Str [], Str [], I 0, I 0, I 0, I 0, .int .u64 0, sl none 0 0, sl none 0 0] Try.zeroValue52) rfl ?_
            rintro _ _ ⟨b11, rfl, rfl⟩
            refine g_l0 (l_storeA (cs := #[Str [], Str [], I 0, I 0, I 0, I 0, .int .u64 0, sl none 0 0, sl none 0 0]) (vs := encAct x (f i)) (encAct x (f i)).toArray Try.sizeOf52 rfl rfl rfl rfl (by simp) (splice_all rfl)) ?_
            rintro _ _ rfl
            refine g_nil ?_
            refine g_seq ?_
            refine g_reg ?_
            refine g_v (v_move rfl) rfl ?_
            refine g_v (v_loadA (vs := encAct x (f i)) Try.isAgg52 Try.sizeOf52 rfl rfl arr_load) rfl ?_
            refine g_l (l_call (Pre := [vdk b35 (D)]) Try.call45 rfl (ct_L_changed b35 D x (f i) i hok (by omega))) rfl ?_
            rintro _ _ ⟨rfl, rfl⟩
            refine g_v (v_move rfl) rfl ?_
            refine g_v (v_extract (v := I (chgI D x)) rfl rfl) rfl ?_
            refine g_v (v_extract (v := errV (chgE D x)) rfl rfl) rfl ?_
            refine g_v (v_assign rfl) rfl ?_
            refine g_v (v_assign rfl) rfl ?_
            refine g_nil ?_
            refine g_seq ?_
            refine g_reg ?_
            refine g_v (v_move rfl) rfl ?_
            refine g_v (v_loadA (vs := encAct x (f i)) Try.isAgg52 Try.sizeOf52 rfl rfl arr_load) rfl ?_
            refine g_l (l_call (Pre := [rvd b40 (D)]) Try.call46 rfl (ct_L_changedRef b40 D x (f i) i hok (by omega))) rfl ?_
            rintro _ _ ⟨rfl, rfl⟩
            have hok' := vok_chg hok x
            generalize chgD D x = D' at *
            refine g_v (v_move rfl) rfl ?_
            refine g_v (v_extract (v := I (chgI D x)) rfl rfl) rfl ?_
            refine g_v (v_extract (v := I (chgE D x)) rfl rfl) rfl ?_
            refine g_v (v_assign rfl) rfl ?_
            refine g_v (v_assign rfl) rfl ?_
            refine g_nil ?_
            refine g_seq ?_
            refine g_seq ?_
            refine g_openR b40 D' ?_
            intro ss cs
            refine g_draw (Lf := pt b40 (.cells (rvC ((D').size) ((D').blocks) ((D').dirty) ((D').time) ((D').next) (sl ss (D').snaps.length cs)) 80 (0, 0)) :: F) [(0, false), (1, false), (2, false), (3, false), (4, false), (5, false), (6, true), (7, false), (8, false), (9, false), (10, false), (12, false), (13, false), (14, false), (15, false), (11, true), (16, false), (17, false)] (by kernel_rfl) (by kernel_rfl) rfl (by kernel_rfl) ?_
            refine d_v rfl (v_move rfl) rfl ?_
            refine d_v rfl (v_move rfl) rfl ?_
            refine d_v rfl (v_neq rfl rfl) rfl ?_
            refine d_v rfl (v_move rfl) rfl ?_
            refine d_gv1 rfl rfl rfl (by simp) (v_move rfl) rfl ?_
            refine d_gv1 rfl rfl rfl (by simp) (v_move rfl) rfl ?_
            refine d_gl rfl rfl rfl (by simp) (l_call (Pre := []) Try.call14 rfl (ct_L_same (chgE D x) (chgE D x) (chgE_nn D x))) rfl ?_
            rintro _ _ ⟨rfl, rfl⟩
            refine d_gv1 rfl rfl rfl (by simp) (v_not rfl) rfl ?_
            refine d_v rfl (v_or rfl rfl) rfl ?_
            refine d_v rfl (v_move rfl) rfl ?_
            refine d_gv1 rfl rfl rfl (by simp) (v_move rfl) rfl ?_
            refine d_gv1 rfl rfl rfl (by simp) (v_move rfl) rfl ?_
            refine d_gv1 rfl rfl rfl (by simp) (v_nilCheck rfl) rfl ?_
            refine d_gv1 rfl rfl rfl (by simp) (v_fieldAddr 0 Try.underlying80 rfl rfl Try.sizeOf3 (by decide) rfl) rfl ?_
            refine d_gv1 rfl rfl rfl (by simp) (v_load (v := I D'.size) Try.isAgg3 rfl rfl) rfl ?_
            refine d_gl rfl rfl rfl (by simp) (l_call (Pre := [vdk b35 (D')]) Try.call47 rfl (ct_vdisk_Size b35 D')) rfl ?_
            rintro _ _ ⟨rfl, rfl⟩
            refine d_gv1 rfl rfl rfl (by simp) (v_neq rfl rfl) rfl ?_
            refine d_v rfl (v_or rfl rfl) rfl ?_
            refine d_nil ?_
            refine g_shutR (rvC ((D').size) ((D').blocks) ((D').dirty) ((D').time) ((D').next) (sl ss (D').snaps.length cs)) (rsnapR D'.snaps) ss cs b40 (D') rfl rfl ?_
            refine g_cond rfl (fun h97 => ?_) (fun h97 => ?_)
            · simp at h97
            · skip
              refine g_skip ?_
              refine g_seq ?_
              refine g_reg ?_
              refine g_v (v_move rfl) rfl ?_
              refine g_v (v_fieldAddr 2 Try.underlying52 rfl rfl Try.sizeOf3 (by decide) rfl) rfl ?_
              refine g_v (v_load (v := I x.a) Try.isAgg3 rfl rfl) rfl ?_
              refine g_v (v_fieldAddr 3 Try.underlying52 rfl rfl Try.sizeOf3 (by decide) rfl) rfl ?_
              refine g_v (v_load (v := I x.b) Try.isAgg3 rfl rfl) rfl ?_
              refine g_l (l_call (Pre := [vdk b35 (D')]) Try.call48 rfl (ct_vdisk_Read b35 D' x.a x.b (by have := hok'.2.2.2.1; omega) (fun s hs => (hok'.2.2.2.2 s hs).2))) rfl ?_
              rintro _ _ ⟨rfl, rfl⟩
              refine g_v (v_move rfl) rfl ?_
              refine g_v (v_extract (v := Str (rdS D' x.a x.b).1) rfl rfl) rfl ?_
              refine g_v (v_extract (v := I (rdS D' x.a x.b).2.1) rfl rfl) rfl ?_
              refine g_v (v_extract (v := errV (rdS D' x.a x.b).2.2) rfl rfl) rfl ?_
              refine g_v (v_assign rfl) rfl ?_
              refine g_v (v_assign rfl) rfl ?_
              refine g_v (v_assign rfl) rfl ?_
              refine g_nil ?_
              refine g_seq ?_
              refine g_reg ?_
              refine g_v (v_move rfl) rfl ?_
              refine g_v (v_fieldAddr 2 Try.underlying52 rfl rfl Try.sizeOf3 (by decide) rfl) rfl ?_
              refine g_v (v_load (v := I x.a) Try.isAgg3 rfl rfl) rfl ?_
              refine g_v (v_fieldAddr 3 Try.underlying52 rfl rfl Try.sizeOf3 (by decide) rfl) rfl ?_
              refine g_v (v_load (v := I x.b) Try.isAgg3 rfl rfl) rfl ?_
              refine g_l (l_call (Pre := [rvd b40 (D')]) Try.call49 rfl (ct_R_VDisk_Read b40 D' x.a x.b (by have := hok'.2.2.2.1; omega) (fun s hs => (hok'.2.2.2.2 s hs).2))) rfl ?_
              rintro _ _ ⟨rfl, rfl⟩
              refine g_v (v_move rfl) rfl ?_
              refine g_v (v_extract (v := Str (rdS D' x.a x.b).1) rfl rfl) rfl ?_
              refine g_v (v_extract (v := I (rdS D' x.a x.b).2.1) rfl rfl) rfl ?_
              refine g_v (v_extract (v := I (rdS D' x.a x.b).2.2) rfl rfl) rfl ?_
              refine g_v (v_assign rfl) rfl ?_
              refine g_v (v_assign rfl) rfl ?_
              refine g_v (v_assign rfl) rfl ?_
              refine g_nil ?_
              refine g_seq ?_
              refine g_seq ?_
              refine g_reg ?_
              refine g_v (v_move rfl) rfl ?_
              refine g_v (v_move rfl) rfl ?_
              refine g_v (v_sneq rfl rfl) rfl ?_
              refine g_v (v_move rfl) rfl ?_
              refine g_gv1 rfl rfl (by simp) (v_move rfl) rfl ?_
              refine g_gv1 rfl rfl (by simp) (v_move rfl) rfl ?_
              refine g_gv1 rfl rfl (by simp) (v_neq rfl rfl) rfl ?_
              refine g_v (v_or rfl rfl) rfl ?_
              refine g_v (v_move rfl) rfl ?_
              refine g_gv1 rfl rfl (by simp) (v_move rfl) rfl ?_
              refine g_gv1 rfl rfl (by simp) (v_move rfl) rfl ?_
              refine g_gl rfl rfl (by simp) (l_call (Pre := []) Try.call14 rfl (ct_L_same ((rdS D' x.a x.b).2.2) ((rdS D' x.a x.b).2.2) (rd_nn _ _ _))) rfl ?_
              rintro _ _ ⟨rfl, rfl⟩
              refine g_gv1 rfl rfl (by simp) (v_not rfl) rfl ?_
              refine g_v (v_or rfl rfl) rfl ?_
              refine g_nil ?_
              refine g_cond rfl (fun h131 => ?_) (fun h131 => ?_)
              · simp at h131
              · skip
                refine g_skip ?_
                refine g_seq ?_
                refine g_reg ?_
                refine g_v (v_move rfl) rfl ?_
                refine g_v (v_fieldAddr 2 Try.underlying52 rfl rfl Try.sizeOf3 (by decide) rfl) rfl ?_
                refine g_v (v_load (v := I x.a) Try.isAgg3 rfl rfl) rfl ?_
                refine g_l (l_call (Pre := [vdk b35 (D')]) Try.call50 rfl (ct_vdisk_SizeOf b35 D' x.a (by have := hok'.2.2.2.1; omega))) rfl ?_
                rintro _ _ ⟨rfl, rfl⟩
                refine g_v (v_move rfl) rfl ?_
                refine g_v (v_extract (v := I (szS D' x.a).1) rfl rfl) rfl ?_
                refine g_v (v_extract (v := errV (szS D' x.a).2) rfl rfl) rfl ?_
                refine g_v (v_assign rfl) rfl ?_
                refine g_v (v_assign rfl) rfl ?_
                refine g_nil ?_
                refine g_seq ?_
                refine g_reg ?_
                refine g_v (v_move rfl) rfl ?_
                refine g_v (v_fieldAddr 2 Try.underlying52 rfl rfl Try.sizeOf3 (by decide) rfl) rfl ?_
                refine g_v (v_load (v := I x.a) Try.isAgg3 rfl rfl) rfl ?_
                refine g_l (l_call (Pre := [rvd b40 (D')]) Try.call51 rfl (ct_R_VDisk_SizeOf b40 D' x.a (by have := hok'.2.2.2.1; omega))) rfl ?_
                rintro _ _ ⟨rfl, rfl⟩
                refine g_v (v_move rfl) rfl ?_
                refine g_v (v_extract (v := I (szS D' x.a).1) rfl rfl) rfl ?_
                refine g_v (v_extract (v := I (szS D' x.a).2) rfl rfl) rfl ?_
                refine g_v (v_assign rfl) rfl ?_
                refine g_v (v_assign rfl) rfl ?_
                refine g_nil ?_
                refine g_seq ?_
                refine g_seq ?_
                refine g_reg ?_
                refine g_v (v_move rfl) rfl ?_
                refine g_v (v_move rfl) rfl ?_
                refine g_v (v_neq rfl rfl) rfl ?_
                refine g_v (v_move rfl) rfl ?_
                refine g_gv1 rfl rfl (by simp) (v_move rfl) rfl ?_
                refine g_gv1 rfl rfl (by simp) (v_move rfl) rfl ?_
                refine g_gl rfl rfl (by simp) (l_call (Pre := []) Try.call14 rfl (ct_L_same ((szS D' x.a).2) ((szS D' x.a).2) (szS_nn _ _))) rfl ?_
                rintro _ _ ⟨rfl, rfl⟩
                refine g_gv1 rfl rfl (by simp) (v_not rfl) rfl ?_
                refine g_v (v_or rfl rfl) rfl ?_
                refine g_nil ?_
                refine g_cond rfl (fun h154 => ?_) (fun h154 => ?_)
                · simp at h154
                · skip
                  refine g_skip ?_
                  refine g_seq ?_
                  refine g_reg ?_
                  refine g_v (v_move rfl) rfl ?_
                  refine g_v (v_fieldAddr 2 Try.underlying52 rfl rfl Try.sizeOf3 (by decide) rfl) rfl ?_
                  refine g_v (v_load (v := I x.a) Try.isAgg3 rfl rfl) rfl ?_
                  refine g_v (v_fieldAddr 3 Try.underlying52 rfl rfl Try.sizeOf3 (by decide) rfl) rfl ?_
                  refine g_v (v_load (v := I x.b) Try.isAgg3 rfl rfl) rfl ?_
                  refine g_l (l_call (Pre := [vdk b35 (D')]) Try.call52 rfl (ct_vdisk_Changed b35 D' x.a x.b (by have := hok'.2.2.2.1; omega))) rfl ?_
                  rintro _ _ ⟨s161, c161, rfl, rfl⟩
                  refine g_freeze s161 ?_
                  refine g_v (v_move rfl) rfl ?_
                  refine g_v (v_extract (v := sl s161 (chA D' x.a x.b).length c161) rfl rfl) rfl ?_
                  refine g_v (v_extract (v := errV (chE D' x.a x.b)) rfl rfl) rfl ?_
                  refine g_v (v_assign rfl) rfl ?_
                  refine g_v (v_assign rfl) rfl ?_
                  refine g_nil ?_
                  refine g_seq ?_
                  refine g_reg ?_
                  refine g_v (v_move rfl) rfl ?_
                  refine g_v (v_fieldAddr 2 Try.underlying52 rfl rfl Try.sizeOf3 (by decide) rfl) rfl ?_
                  refine g_v (v_load (v := I x.a) Try.isAgg3 rfl rfl) rfl ?_
                  refine g_v (v_fieldAddr 3 Try.underlying52 rfl rfl Try.sizeOf3 (by decide) rfl) rfl ?_
                  refine g_v (v_load (v := I x.b) Try.isAgg3 rfl rfl) rfl ?_
                  refine g_l (l_call (Pre := [rvd b40 (D')]) Try.call53 rfl (ct_R_VDisk_Changed b40 D' x.a x.b (by have := hok'.2.2.2.1; omega))) rfl ?_
                  rintro _ _ ⟨s170, c170, rfl, rfl⟩
                  refine g_freeze s170 ?_
                  refine g_v (v_move rfl) rfl ?_
                  refine g_v (v_extract (v := sl s170 (chA D' x.a x.b).length c170) rfl rfl) rfl ?_
                  refine g_v (v_extract (v := I (chE D' x.a x.b)) rfl rfl) rfl ?_
                  refine g_v (v_assign rfl) rfl ?_
                  refine g_v (v_assign rfl) rfl ?_
                  refine g_nil ?_
                  refine g_seq ?_
                  refine g_seq ?_
                  refine g_openR b40 D' ?_
                  intro ss cs
                  refine g_draw (Lf := pt b40 (.cells (rvC ((D').size) ((D').blocks) ((D').dirty) ((D').time) ((D').next) (sl ss (D').snaps.length cs)) 80 (0, 0)) :: F) [(0, false), (1, false), (2, true), (3, false), (4, false), (5, false), (6, false), (7, true), (8, false), (9, false), (10, false), (11, false), (14, false), (15, false), (16, false), (17, false), (18, false), (12, true), (13, false), (19, false), (20, false)] (by kernel_rfl) (by kernel_rfl) rfl (by kernel_rfl) ?_
                  refine d_v rfl (v_move rfl) rfl ?_
                  refine d_v rfl (v_move rfl) rfl ?_
                  refine d_l rfl (l_call (Pre := [roL 2 (s161) (rowsA (chA D' x.a x.b)), roL 2 (s170) (rowsA (chA D' x.a x.b))]) Try.call19 rfl (ct_R_SameAreas (chA D' x.a x.b) (chA D' x.a x.b) (s161) (s170) c161 c170 (lenS _ _ _) (lenS _ _ _))) rfl ?_
                  rintro _ _ ⟨rfl, rfl⟩
                  refine d_v rfl (v_not rfl) rfl ?_
                  refine d_v rfl (v_move rfl) rfl ?_
                  refine d_gv1 rfl rfl rfl (by simp) (v_move rfl) rfl ?_
                  refine d_gv1 rfl rfl rfl (by simp) (v_move rfl) rfl ?_
                  refine d_gl rfl rfl rfl (by simp) (l_call (Pre := []) Try.call14 rfl (ct_L_same (chE D' x.a x.b) (chE D' x.a x.b) (chE_nn _ _ _))) rfl ?_
                  rintro _ _ ⟨rfl, rfl⟩
                  refine d_gv1 rfl rfl rfl (by simp) (v_not rfl) rfl ?_
                  refine d_v rfl (v_or rfl rfl) rfl ?_
                  refine d_v rfl (v_move rfl) rfl ?_
                  refine d_gv1 rfl rfl rfl (by simp) (v_move rfl) rfl ?_
                  refine d_gv1 rfl rfl rfl (by simp) (v_move rfl) rfl ?_
                  refine d_gv1 rfl rfl rfl (by simp) (v_nilCheck rfl) rfl ?_
                  refine d_gv1 rfl rfl rfl (by simp) (v_fieldAddr 35 Try.underlying80 rfl rfl Try.sizeOf78 (by decide) rfl) rfl ?_
                  refine d_gv1 rfl rfl rfl (by simp) (v_load (v := sl ss D'.snaps.length cs) Try.isAgg78 rfl rfl) rfl ?_
                  refine d_gv1 rfl rfl rfl (by simp) (v_len Try.underlying78 rfl) rfl ?_
                  refine d_gl rfl rfl rfl (by simp) (l_call (Pre := [vdk b35 (D')]) Try.call54 rfl (ct_vdisk_Snaps b35 D' (by have := hok'.2.2.2.1; omega))) rfl ?_
                  rintro _ _ ⟨s185, c185, rfl, rfl⟩
                  refine d_gv1 rfl rfl rfl (by simp) (v_len Try.underlying90 rfl) rfl ?_
                  refine d_gv1 rfl rfl rfl (by simp) (v_neq rfl rfl) rfl ?_
                  refine d_v rfl (v_or rfl rfl) rfl ?_
                  refine d_nil ?_
                  refine g_cond rfl (fun h193 => ?_) (fun h193 => ?_)
                  · simp [idsS] at h193
                  · skip
                    refine g_skip ?_
                    refine g_seq ?_
                    refine g_reg ?_
                    refine g_v (v_move rfl) rfl ?_
                    refine g_l (l_call (Pre := [vdk b35 (D')]) Try.call54 rfl (ct_vdisk_Snaps b35 D' (by have := hok'.2.2.2.1; omega))) rfl ?_
                    rintro _ _ ⟨s195, c195, rfl, rfl⟩
                    refine g_v (v_assign rfl) rfl ?_
                    refine g_nil ?_
                    refine g_seq ?_
                    refine g_reg ?_
                    refine g_v (v_assign rfl) rfl ?_
                    refine g_nil ?_
                    refine g_block ?_
                    refine g_loop (α := Nat) (fun k => k ≤ D'.snaps.length) (fun k => U [(1, sl s l.length cap), (6, ptr b35 0), (8, ptr b40 0), (10, I i), (22, sl s195 (idsS D').length c195), (23, I k)]) (fun k => owL 3 1 s195 c195 (intR (idsS D')) :: vdk b35 (D') :: pt b40 (.cells (rvC ((D').size) ((D').blocks) ((D').dirty) ((D').time) ((D').next) (sl ss (D').snaps.length cs)) 80 (0, 0)) :: owL 93 35 ss cs (rsnapR D'.snaps) :: acts s l f :: F) (fun k => D'.snaps.length - k) 0 (by simp) [1, 6, 8, 10, 22, 23] rfl rfl ?_
                    intro k hk
                    refine g_seq ?_
                    refine g_seq ?_
                    refine g_reg ?_
                    refine g_v (v_move rfl) rfl ?_
                    refine g_v (v_move rfl) rfl ?_
                    refine g_v (v_len Try.underlying90 rfl) rfl ?_
                    refine g_v (v_lss rfl rfl) rfl ?_
                    refine g_nil ?_
                    refine g_cond rfl (fun h199 => ?_) (fun h199 => ?_)
                    · have hki : k < (idsS D').length := by simpa using h199
                      have hks : k < D'.snaps.length := by simpa [idsS] using hki
                      obtain ⟨y, hy⟩ : ∃ y, D'.snaps[k]? = some y := ⟨_, List.getElem?_eq_getElem hks⟩
                      have hxi : (idsS D')[k]? = some y.id := by simp [idsS, hy]
                      have hksr : k < (rsnapR D'.snaps).length := by rw [rsnapR_len]; exact hks
                      have h5 := hok'.2.2.2.1
                      refine g_skip ?_
                      refine g_seq ?_
                      refine g_block ?_
                      refine g_seq ?_
                      refine g_drawL [(0, false), (1, false), (2, false), (3, false), (4, false), (5, false), (6, false), (7, false), (8, false), (9, false), (10, false), (11, false), (12, false)] (by kernel_rfl) (by kernel_rfl) rfl (by kernel_rfl) ?_
                      refine d_v rfl (v_move rfl) rfl ?_
                      refine d_v rfl (v_move rfl) rfl ?_
                      refine d_v rfl (v_idxS k Try.underlying90 Try.sizeOf3 rfl rfl rfl hki (by rw [intR_len]; exact hki)) rfl ?_
                      refine d_v rfl (v_loadS0 Try.isAgg3 rfl (intR_at hxi) rfl) rfl ?_
                      refine d_v rfl (v_move rfl) rfl ?_
                      refine d_v rfl (v_nilCheck rfl) rfl ?_
                      refine d_v rfl (v_fieldAddr 35 Try.underlying80 rfl rfl Try.sizeOf78 (by decide) rfl) rfl ?_
                      refine d_v rfl (v_load (v := sl ss D'.snaps.length cs) Try.isAgg78 rfl rfl) rfl ?_
                      refine d_v rfl (v_move rfl) rfl ?_
                      refine d_v rfl (v_idxS k Try.underlying78 Try.sizeOf93 rfl rfl rfl hks hksr) rfl ?_
                      refine d_v rfl (v_fieldAdrS (j := k) 0 Try.underlying93 rfl rfl Try.sizeOf3 (by decide) rfl hksr) rfl ?_
                      refine d_v rfl (v_loadS (v := I y.id) Try.isAgg3 rfl (rsnapR_at hy) rfl) rfl ?_
                      refine d_v rfl (v_neq rfl rfl) rfl ?_
                      refine d_nil ?_
                      refine g_cond rfl (fun h214 => ?_) (fun h214 => ?_)
                      · simp at h214
                      · skip
                        refine g_skip ?_
                        refine g_blk ?_
                        refine g_reg ?_
                        refine g_v (v_move rfl) rfl ?_
                        refine g_v (v_add rfl rfl (w64 (by omega))) rfl ?_
                        refine g_v (v_assign rfl) rfl ?_
                        refine g_nil ?_
                        exact g_again (k + 1) (by omega) (by omega) [1, 6, 8, 10, 22, 23] rfl rfl
                    · refine g_shutR (rvC ((D').size) ((D').blocks) ((D').dirty) ((D').time) ((D').next) (sl ss (D').snaps.length cs)) (rsnapR D'.snaps) ss cs b40 (D') rfl rfl ?_
                      refine g_exit rfl ?_
                      refine g_blk ?_
                      refine g_reg ?_
                      refine g_v (v_move rfl) rfl ?_
                      refine g_v (v_add rfl rfl (w64 (by omega))) rfl ?_
                      refine g_v (v_assign rfl) rfl ?_
                      refine g_nil ?_
                      exact g_again (i + 1, D') ⟨by simp; omega, hok'⟩ (by simp; omega) [1, 6, 8, 10] rfl rfl
          · skip
            refine g_exit rfl ?_
            refine g_seq ?_
            refine g_reg ?_
            refine g_v (v_assign rfl) rfl ?_
            refine g_nil ?_
            refine g_ret1 rfl rfl ?_
            exact rfl
    · skip
      refine g_l (l_call (Pre := []) Try.call43 rfl (ct_vdisk_New n)) rfl ?_
      rintro _ _ (⟨_, rfl, rfl⟩ | ⟨hyes, _, _, _⟩)
      rotate_left
      · exact absurd hyes hns
      refine g_v (v_move rfl) rfl ?_
      refine g_v (v_extract (v := .pointer none) rfl rfl) rfl ?_
      refine g_v (v_extract (v := errV 1) rfl rfl) rfl ?_
      refine g_v (v_assign rfl) rfl ?_
      refine g_v (v_assign rfl) rfl ?_
      refine g_nil ?_
      refine g_seq ?_
      refine g_reg ?_
      refine g_v (v_move rfl) rfl ?_
      refine g_l (l_call (Pre := []) Try.call44 rfl (ct_R_NewVDisk n)) rfl ?_
      rintro _ _ (⟨_, rfl, rfl⟩ | ⟨hyes, _, _, _⟩)
      rotate_left
      · exact absurd hyes hns
      refine g_v (v_move rfl) rfl ?_
      refine g_v (v_extract (v := .pointer none) rfl rfl) rfl ?_
      refine g_v (v_extract (v := I 1) rfl rfl) rfl ?_
      refine g_v (v_assign rfl) rfl ?_
      refine g_v (v_assign rfl) rfl ?_
      refine g_nil ?_
      refine g_seq ?_
      refine g_seq ?_
      refine g_reg ?_
      refine g_v (v_move rfl) rfl ?_
      refine g_v (v_gtr rfl rfl) rfl ?_
      refine g_nil ?_
      refine g_cond rfl (fun h44 => ?_) (fun h44 => ?_)
      · skip
        refine g_seq ?_
        refine g_reg ?_
        refine g_v (v_move rfl) rfl ?_
        refine g_v (v_move rfl) rfl ?_
        refine g_l (l_call (Pre := []) Try.call14 rfl (ct_L_same (1) (1) (by decide))) rfl ?_
        rintro _ _ ⟨rfl, rfl⟩
        refine g_v (v_move rfl) rfl ?_
        refine g_gv1 rfl rfl rfl (v_move rfl) rfl ?_
        refine g_gv1 rfl rfl rfl (v_pnil Try.underlying67 rfl) rfl ?_
        refine g_v (v_and rfl rfl) rfl ?_
        refine g_v (v_assign rfl) rfl ?_
        refine g_nil ?_
        refine g_ret1 rfl rfl ?_
        exact rfl
      · simp at h44

end Go.Proofs.Ythdjckbjjfiopaa
