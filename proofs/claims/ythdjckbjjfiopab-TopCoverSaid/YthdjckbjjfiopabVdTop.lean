/- Walks through the law functions on disks of package vdisk. No condition. -/
import Derived.Test.YthdjckbjjfiopabVdLaw
import Derived.Test.YthdjckbjjfiopabLight2
namespace Go.Proofs.Ythdjckbjjfiopab
open Go.Sl Go.Proofs
set_option linter.unusedVariables false
set_option linter.unusedSimpArgs false
def RChd (n : Int) (l : List ActM) (Fr : List HProp) : Value → List HProp → Prop := fun v L' => (v = .tuple #[.pointer none, Bo false] ∧ L' = Fr) ∨ ((1 ≤ n ∧ n ≤ 16) ∧ l.length ≤ 80 ∧ ∃ b, v = .tuple #[ptr b 0, Bo true] ∧ L' = vdk b (runD (vdNew n) l) :: Fr)
section
variable {c : Cx} {E : Env} {L : List HProp} {K : List KI}
theorem g_retCh0 {n : Int} {l : List ActM} {Fr : List HProp} {vs : List Value} (hR : c.R = RChd n l Fr) (hr : resOf E c.fn.results.toList = some vs) (hv : tup vs = .tuple #[.pointer none, Bo false]) [S : Sub L Fr] : G c (.code .ret :: K) E L :=
  fun a w hE hS => wp_ret (kq_ret (res_fpost hr hE (S.sat hS) (by rw [hR]; exact .inl ⟨hv, rfl⟩)))
theorem g_retCh1 {n : Int} {l : List ActM} {Fr : List HProp} {vs : List Value} (b : Nat) (hR : c.R = RChd n l Fr) (hr : resOf E c.fn.results.toList = some vs) (hn : 1 ≤ n ∧ n ≤ 16) (hl : l.length ≤ 80) (hv : tup vs = .tuple #[ptr b 0, Bo true]) [S : Sub L (vdk b (runD (vdNew n) l) :: Fr)] : G c (.code .ret :: K) E L :=
  fun a w hE hS => wp_ret (kq_ret (res_fpost hr hE (S.sat hS) (by rw [hR]; exact .inr ⟨hn, hl, b, hv, rfl⟩)))
end
def tk0 : VdM := vdNew 4
def tk1 : VdM := snD tk0
def tk2 : VdM := wrD tk1 2 [120]
def tk3 : VdM := snD tk2
def tkA : List Area := [⟨2, 1⟩]
theorem tk_ch : chA tk3 1 2 = tkA := by decide
theorem rd_nn (D : VdM) (x n : Int) : 0 ≤ (rdS D x n).2.2 := by unfold rdS; split; simp; split <;> simp
def unlS (D : VdM) (x y n : Int) : Bool := !decide ((rdS D x n).1 = (rdS D y n).1) || !decide (decide ((rdS D x n).2.2 = 0) = decide ((rdS D y n).2.2 = 0))

theorem ct_T_number (e : Int) (F : List HProp) : Ct Try.prog 36 [errV e] ([] ++ F) (R1 (I e) F) := by
  show Ct Try.prog 36 [errV e] (F) _
  refine Ct.of Try.func36 rfl 15 Try.ntmps36 (by simp) fun w0 => ?_
  refine g_seq ?_
  refine g_reg ?_
  refine g_v (v_assign rfl) rfl ?_
  refine g_nil ?_
  refine g_seq ?_
  refine g_seq ?_
  refine g_reg ?_
  refine g_v (v_move rfl) rfl ?_
  refine g_v (v_ieql Try.underlying29 rfl) rfl ?_
  refine g_nil ?_
  refine g_cond rfl (fun h6 => ?_) (fun h6 => ?_)
  · simp at h6
    subst h6
    refine g_seq ?_
    refine g_reg ?_
    refine g_v (v_assign rfl) rfl ?_
    refine g_nil ?_
    refine g_ret1 rfl rfl ?_
    exact rfl
  · simp at h6
    refine g_skip ?_
    refine g_seq ?_
    refine g_reg ?_
    refine g_v (v_move rfl) rfl ?_
    refine g_v (v_assertE Try.underlying103 rfl h6) rfl ?_
    refine g_v (v_move rfl) rfl ?_
    refine g_v (v_extract rfl rfl) rfl ?_
    refine g_v (v_extract rfl rfl) rfl ?_
    refine g_v (v_assign rfl) rfl ?_
    refine g_v (v_assign rfl) rfl ?_
    refine g_nil ?_
    refine g_seq ?_
    refine g_seq ?_
    refine g_reg ?_
    refine g_v (v_move rfl) rfl ?_
    refine g_v (v_not rfl) rfl ?_
    refine g_nil ?_
    refine g_cond rfl (fun h13 => ?_) (fun h13 => ?_)
    · simp at h13
    · skip
      refine g_skip ?_
      refine g_seq ?_
      refine g_reg ?_
      refine g_v (v_move rfl) rfl ?_
      refine g_v (v_assign rfl) rfl ?_
      refine g_nil ?_
      refine g_ret1 rfl rfl ?_
      exact rfl

theorem ct_T_unlike (b : Nat) (D : VdM) (x y n : Int) (hsl : D.snaps.length ≤ 1000000) (hsz : ∀ s ∈ D.snaps, s.size ≤ 16) (F : List HProp) : Ct Try.prog 43 [ptr b 0, I x, I y, I n] ([vdk b (D)] ++ F) (R1 (Bo (unlS D x y n)) (vdk b (D) :: F)) := by
  show Ct Try.prog 43 [ptr b 0, I x, I y, I n] (vdk b (D) :: F) _
  refine Ct.of Try.func43 rfl 41 Try.ntmps43 (by simp) fun w0 => ?_
  refine g_seq ?_
  refine g_reg ?_
  refine g_v (v_assign rfl) rfl ?_
  refine g_nil ?_
  refine g_seq ?_
  refine g_reg ?_
  refine g_v (v_move rfl) rfl ?_
  refine g_v (v_move rfl) rfl ?_
  refine g_v (v_move rfl) rfl ?_
  refine g_l (l_call (Pre := [vdk b (D)]) Try.call41 rfl (ct_vdisk_Read b D x n hsl hsz)) rfl ?_
  rintro _ _ ⟨rfl, rfl⟩
  refine g_v (v_move rfl) rfl ?_
  refine g_v (v_extract (v := Str (rdS D x n).1) rfl rfl) rfl ?_
  refine g_v (v_extract (v := I (rdS D x n).2.1) rfl rfl) rfl ?_
  refine g_v (v_extract (v := errV (rdS D x n).2.2) rfl rfl) rfl ?_
  refine g_v (v_assign rfl) rfl ?_
  refine g_v (v_assign rfl) rfl ?_
  refine g_v (v_assign rfl) rfl ?_
  refine g_nil ?_
  refine g_seq ?_
  refine g_reg ?_
  refine g_v (v_move rfl) rfl ?_
  refine g_v (v_move rfl) rfl ?_
  refine g_v (v_move rfl) rfl ?_
  refine g_l (l_call (Pre := [vdk b (D)]) Try.call41 rfl (ct_vdisk_Read b D y n hsl hsz)) rfl ?_
  rintro _ _ ⟨rfl, rfl⟩
  refine g_v (v_move rfl) rfl ?_
  refine g_v (v_extract (v := Str (rdS D y n).1) rfl rfl) rfl ?_
  refine g_v (v_extract (v := I (rdS D y n).2.1) rfl rfl) rfl ?_
  refine g_v (v_extract (v := errV (rdS D y n).2.2) rfl rfl) rfl ?_
  refine g_v (v_assign rfl) rfl ?_
  refine g_v (v_assign rfl) rfl ?_
  refine g_v (v_assign rfl) rfl ?_
  refine g_nil ?_
  refine g_seq ?_
  refine g_drawL [(0, false), (1, false), (2, false), (3, false), (4, false), (5, false), (6, false), (7, false), (8, false), (9, false), (10, false)] (by kernel_rfl) (by kernel_rfl) rfl (by kernel_rfl) ?_
  refine d_v rfl (v_move rfl) rfl ?_
  refine d_v rfl (v_move rfl) rfl ?_
  refine d_v rfl (v_sneq rfl rfl) rfl ?_
  refine d_v rfl (v_move rfl) rfl ?_
  refine d_gv rfl rfl rfl (fun hg => v_move rfl) rfl rfl ?_
  refine d_gv rfl rfl rfl (fun hg => v_ieql Try.underlying29 rfl) rfl rfl ?_
  refine d_gv rfl rfl rfl (fun hg => v_move rfl) rfl rfl ?_
  refine d_gv rfl rfl rfl (fun hg => v_ieql Try.underlying29 rfl) rfl rfl ?_
  refine d_gv rfl rfl rfl (fun hg => v_bneq Try.underlying4 rfl rfl) rfl rfl ?_
  refine d_v rfl (v_or rfl rfl) rfl ?_
  refine d_v rfl (v_assign rfl) rfl ?_
  refine d_nil ?_
  refine g_ret1 rfl rfl ?_
  exact rfl

theorem ct_T_tracked  (F : List HProp) : Ct Try.prog 29 [] ([] ++ F) (R1 (Bo true) F) := by
  show Ct Try.prog 29 [] (F) _
  refine Ct.of Try.func29 rfl 59 Try.ntmps29 (by simp) fun w0 => ?_
  refine g_seq ?_
  refine g_reg ?_
  refine g_v (v_assign rfl) rfl ?_
  refine g_nil ?_
  refine g_seq ?_
  refine g_reg ?_
  refine g_l (l_call (Pre := []) Try.call65 rfl (ct_vdisk_New 4)) rfl ?_
  rintro _ _ (⟨hno, _, _⟩ | ⟨_, b11, rfl, rfl⟩)
  · exact absurd (by decide) hno
  rw [show vdNew 4 = tk0 from rfl]
  refine g_v (v_move rfl) rfl ?_
  refine g_v (v_extract (v := ptr b11 0) rfl rfl) rfl ?_
  refine g_v (v_extract (v := errV 0) rfl rfl) rfl ?_
  refine g_v (v_assign rfl) rfl ?_
  refine g_v (v_assign rfl) rfl ?_
  refine g_nil ?_
  refine g_seq ?_
  refine g_seq ?_
  refine g_reg ?_
  refine g_v (v_move rfl) rfl ?_
  refine g_v (v_ineq Try.underlying29 rfl) rfl ?_
  refine g_v (v_move rfl) rfl ?_
  refine g_gv1 rfl rfl rfl (v_move rfl) rfl ?_
  refine g_gv1 rfl rfl rfl (v_pnil Try.underlying61 rfl) rfl ?_
  refine g_v (v_or rfl rfl) rfl ?_
  refine g_nil ?_
  refine g_cond rfl (fun h19 => ?_) (fun h19 => ?_)
  · simp at h19
  · skip
    refine g_skip ?_
    refine g_seq ?_
    refine g_reg ?_
    refine g_v (v_move rfl) rfl ?_
    refine g_l (l_call (Pre := [vdk b11 (tk0)]) Try.call34 rfl (ct_vdisk_Snap b11 tk0 (by decide) (by decide))) rfl ?_
    rintro _ _ ⟨rfl, rfl⟩
    rw [show snI tk0 = 1 by decide, show snE tk0 = 0 by decide, show snD tk0 = tk1 from rfl]
    refine g_v (v_move rfl) rfl ?_
    refine g_v (v_extract (v := I 1) rfl rfl) rfl ?_
    refine g_v (v_extract (v := errV 0) rfl rfl) rfl ?_
    refine g_v (v_assign rfl) rfl ?_
    refine g_v (v_assign rfl) rfl ?_
    refine g_nil ?_
    refine g_seq ?_
    refine g_reg ?_
    refine g_v (v_move rfl) rfl ?_
    refine g_l (l_call (Pre := [vdk b11 (tk1)]) Try.call37 rfl (ct_vdisk_Write b11 tk1 2 [120] (by decide))) rfl ?_
    rintro _ _ ⟨rfl, rfl⟩
    rw [show wrE tk1 2 [120] = 0 by decide, show wrD tk1 2 [120] = tk2 from rfl]
    refine g_v (v_assign rfl) rfl ?_
    refine g_nil ?_
    refine g_seq ?_
    refine g_reg ?_
    refine g_v (v_move rfl) rfl ?_
    refine g_l (l_call (Pre := [vdk b11 (tk2)]) Try.call34 rfl (ct_vdisk_Snap b11 tk2 (by decide) (by decide))) rfl ?_
    rintro _ _ ⟨rfl, rfl⟩
    rw [show snI tk2 = 2 by decide, show snE tk2 = 0 by decide, show snD tk2 = tk3 from rfl]
    refine g_v (v_move rfl) rfl ?_
    refine g_v (v_extract (v := I 2) rfl rfl) rfl ?_
    refine g_v (v_extract (v := errV 0) rfl rfl) rfl ?_
    refine g_v (v_assign rfl) rfl ?_
    refine g_v (v_assign rfl) rfl ?_
    refine g_nil ?_
    refine g_seq ?_
    refine g_reg ?_
    refine g_v (v_move rfl) rfl ?_
    refine g_v (v_move rfl) rfl ?_
    refine g_v (v_move rfl) rfl ?_
    refine g_l (l_call (Pre := [vdk b11 (tk3)]) Try.call35 rfl (ct_vdisk_Changed b11 tk3 1 2 (by decide))) rfl ?_
    rintro _ _ ⟨s36, c36, rfl, rfl⟩
    rw [tk_ch, show chE tk3 1 2 = 0 by decide]
    refine g_v (v_move rfl) rfl ?_
    refine g_v (v_extract (v := sl s36 tkA.length c36) rfl rfl) rfl ?_
    refine g_v (v_extract (v := errV 0) rfl rfl) rfl ?_
    refine g_v (v_assign rfl) rfl ?_
    refine g_v (v_assign rfl) rfl ?_
    refine g_nil ?_
    refine g_seq ?_
    refine g_reg ?_
    refine g_v (v_move rfl) rfl ?_
    refine g_v (v_ieql Try.underlying29 rfl) rfl ?_
    refine g_v (v_move rfl) rfl ?_
    refine g_gv1 rfl rfl rfl (v_move rfl) rfl ?_
    refine g_gv1 rfl rfl rfl (v_ieql Try.underlying29 rfl) rfl ?_
    refine g_v (v_and rfl rfl) rfl ?_
    refine g_v (v_move rfl) rfl ?_
    refine g_gv1 rfl rfl rfl (v_move rfl) rfl ?_
    refine g_gv1 rfl rfl rfl (v_ieql Try.underlying29 rfl) rfl ?_
    refine g_v (v_and rfl rfl) rfl ?_
    refine g_v (v_move rfl) rfl ?_
    refine g_gv1 rfl rfl rfl (v_move rfl) rfl ?_
    refine g_gv1 rfl rfl rfl (v_ieql Try.underlying29 rfl) rfl ?_
    refine g_v (v_and rfl rfl) rfl ?_
    refine g_v (v_move rfl) rfl ?_
    refine g_gv1 rfl rfl rfl (v_move rfl) rfl ?_
    refine g_gv1 rfl rfl rfl (v_build rfl (bld26_0_1 _ rfl _ rfl)) rfl ?_
    refine g_gl rfl rfl rfl (l_buildSlice (rowsA tkA) Try.underlying22 Try.sizeOf26 Try.zeroValue26 rfl rfl rfl (by simp [rowsA, encA, tkA]) (by decide) (by decide)) rfl ?_
    rintro _ _ ⟨b56, rfl, rfl⟩
    refine g_freeze s36 ?_
    refine g_freeze (some ⟨b56, 0, none⟩) ?_
    refine g_gl rfl rfl rfl (l_call (Pre := [roL 2 (s36) (rowsA (tkA)), roL 2 (some ⟨b56, 0, none⟩) (rowsA (tkA))]) Try.call16 rfl (ct_R_SameAreas (tkA) (tkA) (s36) (some ⟨b56, 0, none⟩) c36 1 (by decide) (by decide))) rfl ?_
    rintro _ _ ⟨rfl, rfl⟩
    refine g_v (v_and rfl rfl) rfl ?_
    refine g_v (v_assign rfl) rfl ?_
    refine g_nil ?_
    refine g_ret1 rfl rfl ?_
    show Bo _ = Bo true
    simp

theorem ct_T_change (b : Nat) (D : VdM) (x : ActM) (z : ActZ) (i : Nat) (hok : vok i D) (hi : i ≤ 1000000) (F : List HProp) : Ct Try.prog 33 [ptr b 0, .agg (encAct x z).toArray] ([vdk b (D)] ++ F) (R1 (.tuple #[]) (vdk b (chgD D x) :: F)) := by
  show Ct Try.prog 33 [ptr b 0, .agg (encAct x z).toArray] (vdk b (D) :: F) _
  refine Ct.of Try.func33 rfl 37 Try.ntmps33 (by simp) fun w0 => ?_
  refine g_seq ?_
  refine g_reg ?_
  refine g_l (l_box (encAct x z).toArray rfl rfl) rfl ?_
  rintro _ _ ⟨b3, rfl, rfl⟩
  refine g_nil ?_
  refine g_seq ?_
  refine g_reg ?_
  refine g_v (v_fieldAddr 0 Try.underlying46 rfl rfl Try.sizeOf9 (by decide) rfl) rfl ?_
  refine g_v (v_load (v := Str x.kind) Try.isAgg9 rfl rfl) rfl ?_
  refine g_nil ?_
  refine g_block ?_
  refine g_seq ?_
  refine g_reg ?_
  refine g_v (v_seql rfl rfl) rfl ?_
  refine g_v (v_assign rfl) rfl ?_
  refine g_nil ?_
  refine g_cond rfl (fun h6 => ?_) (fun h6 => ?_)
  · simp at h6
    change x.kind = kW at h6
    refine g_reg ?_
    refine g_v (v_move rfl) rfl ?_
    refine g_v (v_fieldAddr 2 Try.underlying46 rfl rfl Try.sizeOf3 (by decide) rfl) rfl ?_
    refine g_v (v_load (v := I x.a) Try.isAgg3 rfl rfl) rfl ?_
    refine g_v (v_fieldAddr 1 Try.underlying46 rfl rfl Try.sizeOf9 (by decide) rfl) rfl ?_
    refine g_v (v_load (v := Str x.s) Try.isAgg9 rfl rfl) rfl ?_
    refine g_l (l_call (Pre := [vdk b (D)]) Try.call37 rfl (ct_vdisk_Write b D x.a x.s hok.1.2)) rfl ?_
    rintro _ _ ⟨rfl, rfl⟩
    refine g_nil ?_
    refine g_blk ?_
    rw [show wrD D x.a x.s = chgD D x by unfold chgD; rw [if_pos h6]]
    exact g_end1 rfl rfl rfl
  · simp at h6
    change ¬ x.kind = kW at h6
    refine g_seq ?_
    refine g_reg ?_
    refine g_v (v_seql rfl rfl) rfl ?_
    refine g_v (v_assign rfl) rfl ?_
    refine g_nil ?_
    refine g_cond rfl (fun h14 => ?_) (fun h14 => ?_)
    · simp at h14
      change x.kind = kZ at h14
      refine g_reg ?_
      refine g_v (v_move rfl) rfl ?_
      refine g_v (v_fieldAddr 2 Try.underlying46 rfl rfl Try.sizeOf3 (by decide) rfl) rfl ?_
      refine g_v (v_load (v := I x.a) Try.isAgg3 rfl rfl) rfl ?_
      refine g_l (l_call (Pre := [vdk b (D)]) Try.call39 rfl (ct_vdisk_Resize b D x.a hok.1)) rfl ?_
      rintro _ _ ⟨rfl, rfl⟩
      refine g_nil ?_
      refine g_blk ?_
      rw [show rsD D x.a = chgD D x by unfold chgD; rw [if_neg h6, if_pos h14]]
      exact g_end1 rfl rfl rfl
    · simp at h14
      change ¬ x.kind = kZ at h14
      refine g_seq ?_
      refine g_reg ?_
      refine g_v (v_seql rfl rfl) rfl ?_
      refine g_v (v_assign rfl) rfl ?_
      refine g_nil ?_
      refine g_cond rfl (fun h20 => ?_) (fun h20 => ?_)
      · simp at h20
        change x.kind = kS at h20
        refine g_reg ?_
        refine g_v (v_move rfl) rfl ?_
        refine g_l (l_call (Pre := [vdk b (D)]) Try.call34 rfl (ct_vdisk_Snap b D (by have := hok.2.2.2.1; omega) (by have := hok.2.1; omega))) rfl ?_
        rintro _ _ ⟨rfl, rfl⟩
        refine g_v (v_move rfl) rfl ?_
        refine g_v (v_extract rfl rfl) rfl ?_
        refine g_v (v_extract rfl rfl) rfl ?_
        refine g_nil ?_
        refine g_blk ?_
        rw [show snD D = chgD D x by unfold chgD; rw [if_neg h6, if_neg h14, if_pos h20]]
        exact g_end1 rfl rfl rfl
      · simp at h20
        change ¬ x.kind = kS at h20
        refine g_seq ?_
        refine g_reg ?_
        refine g_v (v_seql rfl rfl) rfl ?_
        refine g_v (v_assign rfl) rfl ?_
        refine g_nil ?_
        refine g_cond rfl (fun h27 => ?_) (fun h27 => ?_)
        · simp at h27
          change x.kind = kU at h27
          refine g_reg ?_
          refine g_v (v_move rfl) rfl ?_
          refine g_v (v_fieldAddr 2 Try.underlying46 rfl rfl Try.sizeOf3 (by decide) rfl) rfl ?_
          refine g_v (v_load (v := I x.a) Try.isAgg3 rfl rfl) rfl ?_
          refine g_l (l_call (Pre := [vdk b (D)]) Try.call42 rfl (ct_vdisk_Drop b D x.a (by have := hok.2.2.2.1; omega))) rfl ?_
          rintro _ _ ⟨rfl, rfl⟩
          refine g_nil ?_
          refine g_blk ?_
          rw [show drD D x.a = chgD D x by unfold chgD; rw [if_neg h6, if_neg h14, if_neg h20, if_pos h27]]
          exact g_end1 rfl rfl rfl
        · simp at h27
          change ¬ x.kind = kU at h27
          refine g_seq ?_
          refine g_reg ?_
          refine g_v (v_seql rfl rfl) rfl ?_
          refine g_v (v_assign rfl) rfl ?_
          refine g_nil ?_
          refine g_cond rfl (fun h33 => ?_) (fun h33 => ?_)
          · simp at h33
            change x.kind = kF at h33
            refine g_reg ?_
            refine g_v (v_move rfl) rfl ?_
            refine g_l (l_call (Pre := [vdk b (D)]) Try.call32 rfl (ct_vdisk_Forget b D (by have := hok.2.2.1; omega))) rfl ?_
            rintro _ _ ⟨rfl, rfl⟩
            refine g_nil ?_
            refine g_blk ?_
            rw [show fgD D = chgD D x by unfold chgD; rw [if_neg h6, if_neg h14, if_neg h20, if_neg h27, if_pos h33]]
            exact g_end1 rfl rfl rfl
          · simp at h33
            change ¬ x.kind = kF at h33
            refine g_skip ?_
            refine g_blk ?_
            rw [show vdk b D = vdk b (chgD D x) by unfold chgD; rw [if_neg h6, if_neg h14, if_neg h20, if_neg h27, if_neg h33]]
            exact g_end1 rfl rfl rfl

theorem ct_T_changed (n : Int) (l : List ActM) (f : Nat → ActZ) (s : Option Addr) (cap : Nat) (hl : l.length ≤ 9223372036854775807) (hla : ∀ x ∈ l, x.puts.length ≤ 9223372036854775807 ∧ x.changes.length ≤ 9223372036854775807) (F : List HProp) : Ct Try.prog 30 [I n, sl s l.length cap] ([acts s l f] ++ F) (RChd n l (acts s l f :: F)) := by
  show Ct Try.prog 30 [I n, sl s l.length cap] (acts s l f :: F) _
  refine Ct.of Try.func30 rfl 32 Try.ntmps30 (by simp) fun w0 => ?_
  refine g_seq ?_
  refine g_reg ?_
  refine g_v (v_assign rfl) rfl ?_
  refine g_v (v_assign rfl) rfl ?_
  refine g_nil ?_
  refine g_seq ?_
  refine g_seq ?_
  refine g_reg ?_
  refine g_v (v_move rfl) rfl ?_
  refine g_l (l_call (Pre := [acts s l f]) Try.call20 rfl (ct_L_LightActs l f s cap 80 hl hla)) rfl ?_
  rintro _ _ ⟨rfl, rfl⟩
  refine g_v (v_not rfl) rfl ?_
  refine g_nil ?_
  refine g_cond rfl (fun h11 => ?_) (fun h11 => ?_)
  · skip
    refine g_seq ?_
    refine g_reg ?_
    refine g_v (v_assign rfl) rfl ?_
    refine g_v (v_assign rfl) rfl ?_
    refine g_nil ?_
    exact g_retCh0 rfl rfl rfl
  · simp at h11
    have hll : l.length ≤ 80 := by unfold lightA at h11; simp at h11; omega
    refine g_skip ?_
    refine g_seq ?_
    refine g_reg ?_
    refine g_v (v_move rfl) rfl ?_
    by_cases hns : 1 ≤ n ∧ n ≤ 16
    · skip
      refine g_l (l_call (Pre := []) Try.call65 rfl (ct_vdisk_New n)) rfl ?_
      rintro _ _ (⟨hno, _, _⟩ | ⟨_, b14, rfl, rfl⟩)
      · exact absurd hns hno
      show G _ _ _ (vdk b14 (runD (vdNew n) (l.take 0)) :: acts s l f :: F)
      refine g_v (v_move rfl) rfl ?_
      refine g_v (v_extract (v := ptr b14 0) rfl rfl) rfl ?_
      refine g_v (v_extract (v := errV 0) rfl rfl) rfl ?_
      refine g_v (v_assign rfl) rfl ?_
      refine g_v (v_assign rfl) rfl ?_
      refine g_nil ?_
      refine g_seq ?_
      refine g_seq ?_
      refine g_reg ?_
      refine g_v (v_move rfl) rfl ?_
      refine g_v (v_ineq Try.underlying29 rfl) rfl ?_
      refine g_nil ?_
      refine g_cond rfl (fun h18 => ?_) (fun h18 => ?_)
      · simp at h18
      · skip
        refine g_skip ?_
        refine g_seq ?_
        refine g_seq ?_
        refine g_reg ?_
        refine g_v (v_assign rfl) rfl ?_
        refine g_nil ?_
        refine g_block ?_
        refine g_loop (α := Nat) (fun k => k ≤ l.length ∧ vok k (runD (vdNew n) (l.take k))) (fun k => U [(1, sl s l.length cap), (6, ptr b14 0), (8, I k)]) (fun k => vdk b14 (runD (vdNew n) (l.take k)) :: acts s l f :: F) (fun k => l.length - k) 0 ⟨by simp, vok_new hns⟩ [1, 6, 8] rfl rfl ?_
        rintro k ⟨hk, hok⟩
        refine g_seq ?_
        refine g_seq ?_
        refine g_reg ?_
        refine g_v (v_move rfl) rfl ?_
        refine g_v (v_move rfl) rfl ?_
        refine g_v (v_len Try.underlying34 rfl) rfl ?_
        refine g_v (v_lss rfl rfl) rfl ?_
        refine g_nil ?_
        refine g_cond rfl (fun h22 => ?_) (fun h22 => ?_)
        · simp at h22
          have hkn : k < l.length := by omega
          obtain ⟨x, hx⟩ : ∃ x, l[k]? = some x := ⟨_, List.getElem?_eq_getElem hkn⟩
          have hkr : k < (actR l f).length := by rw [actR_len]; exact hkn
          refine g_skip ?_
          refine g_seq ?_
          refine g_block ?_
          refine g_reg ?_
          refine g_v (v_move rfl) rfl ?_
          refine g_v (v_move rfl) rfl ?_
          refine g_v (v_move rfl) rfl ?_
          refine g_v (v_idxS k Try.underlying34 Try.sizeOf46 rfl rfl rfl hkn hkr) rfl ?_
          refine g_v (v_loadAS (row := encAct x (f k)) Try.isAgg46 Try.sizeOf46 rfl (actR_at hx) rfl) rfl ?_
          refine g_l (l_call (Pre := [vdk b14 (runD (vdNew n) (l.take k))]) Try.call33 rfl (ct_T_change b14 (runD (vdNew n) (l.take k)) x (f k) k hok (by omega))) rfl ?_
          rintro _ _ ⟨rfl, rfl⟩
          have hok' := vok_chg hok x
          rw [← runD_take hx] at hok' ⊢
          refine g_nil ?_
          refine g_blk ?_
          refine g_reg ?_
          refine g_v (v_move rfl) rfl ?_
          refine g_v (v_add rfl rfl (w64 (by omega))) rfl ?_
          refine g_v (v_assign rfl) rfl ?_
          refine g_nil ?_
          exact g_again (k + 1) ⟨by omega, hok'⟩ (by omega) [1, 6, 8] rfl rfl
        · simp at h22
          obtain rfl : k = l.length := by omega
          rw [List.take_length]
          refine g_exit rfl ?_
          refine g_seq ?_
          refine g_reg ?_
          refine g_v (v_move rfl) rfl ?_
          refine g_v (v_assign rfl) rfl ?_
          refine g_v (v_assign rfl) rfl ?_
          refine g_nil ?_
          exact g_retCh1 b14 rfl rfl hns hll rfl
    · skip
      refine g_l (l_call (Pre := []) Try.call65 rfl (ct_vdisk_New n)) rfl ?_
      rintro _ _ (⟨_, rfl, rfl⟩ | ⟨hyes, _, _, _⟩)
      rotate_left
      · exact absurd hyes hns
      refine g_v (v_move rfl) rfl ?_
      refine g_v (v_extract (v := .pointer none) rfl rfl) rfl ?_
      refine g_v (v_extract (v := errV 1) rfl rfl) rfl ?_
      refine g_v (v_assign rfl) rfl ?_
      refine g_v (v_assign rfl) rfl ?_
      refine g_nil ?_
      refine g_seq ?_
      refine g_seq ?_
      refine g_reg ?_
      refine g_v (v_move rfl) rfl ?_
      refine g_v (v_ineq Try.underlying29 rfl) rfl ?_
      refine g_nil ?_
      refine g_cond rfl (fun h18 => ?_) (fun h18 => ?_)
      · skip
        refine g_seq ?_
        refine g_reg ?_
        refine g_v (v_assign rfl) rfl ?_
        refine g_v (v_assign rfl) rfl ?_
        refine g_nil ?_
        exact g_retCh0 rfl rfl rfl
      · simp at h18

end Go.Proofs.Ythdjckbjjfiopab
