/- Walks through the law functions on disks. No condition. -/
import Derived.Test.YthdjckbjjfiopaaDisk4
import Derived.Test.YthdjckbjjfiopaaSl16
namespace Go.Proofs.Ythdjckbjjfiopaa
open Go.Sl Go.Proofs
set_option linter.unusedVariables false
set_option linter.unusedSimpArgs false
def sp0 : DiskM := newD 3
def sp1 : DiskM := writeD sp0 1 [120, 121]
def sp2 : DiskM := flushD sp1
def sp3 : DiskM := restD 0 sp2

theorem ct_L_spins  (F : List HProp) : Ct Try.prog 27 [] ([] ++ F) (R1 (Bo true) F) := by
  show Ct Try.prog 27 [] (F) _
  refine Ct.of Try.func27 rfl 53 Try.ntmps27 (by simp) fun w0 => ?_
  refine g_seq ?_
  refine g_reg ?_
  refine g_v (v_assign rfl) rfl ?_
  refine g_nil ?_
  refine g_seq ?_
  refine g_reg ?_
  refine g_l (l_call (Pre := []) Try.call29 rfl (ct_disk_New 3)) rfl ?_
  rintro _ _ (⟨hn, _, _⟩ | ⟨hn, b8, rfl, rfl⟩)
  · exact absurd (by decide) hn
  rw [show newD (3 : Int).toNat = sp0 from rfl]
  refine g_v (v_move rfl) rfl ?_
  refine g_v (v_extract (v := ptr b8 0) rfl rfl) rfl ?_
  refine g_v (v_extract (v := errV 0) rfl rfl) rfl ?_
  refine g_v (v_assign rfl) rfl ?_
  refine g_v (v_assign rfl) rfl ?_
  refine g_nil ?_
  refine g_seq ?_
  refine g_seq ?_
  refine g_reg ?_
  refine g_v (v_move rfl) rfl ?_
  refine g_v (v_ineq Try.underlying26 rfl) rfl ?_
  refine g_v (v_move rfl) rfl ?_
  refine g_gv1 rfl rfl (by decide) (v_move rfl) rfl ?_
  refine g_gv1 rfl rfl (by decide) (v_pnil Try.underlying41 rfl) rfl ?_
  refine g_v (v_or rfl rfl) rfl ?_
  refine g_nil ?_
  refine g_cond rfl (fun h16 => ?_) (fun h16 => ?_)
  · simp at h16
  · skip
    refine g_skip ?_
    refine g_seq ?_
    refine g_reg ?_
    refine g_v (v_move rfl) rfl ?_
    refine g_l (l_call (Pre := [dsk 184 187 b8 (sp0)]) Try.call32 rfl (ct_disk_Write b8 sp0 1 [120, 121] (by decide) (by decide))) rfl ?_
    rintro _ _ ⟨rfl, rfl⟩
    rw [show writeE sp0 1 [120, 121] = 0 by decide, show writeD sp0 1 [120, 121] = sp1 from rfl]
    refine g_v (v_assign rfl) rfl ?_
    refine g_nil ?_
    refine g_seq ?_
    refine g_reg ?_
    refine g_v (v_move rfl) rfl ?_
    refine g_l (l_call (Pre := [dsk 184 187 b8 (sp1)]) Try.call36 rfl (ct_disk_Flush b8 sp1 (by decide) (by decide) (by decide))) rfl ?_
    rintro _ _ ⟨rfl, rfl⟩
    rw [show stepE sp1 = 0 by decide, show flushD sp1 = sp2 from rfl]
    refine g_v (v_assign rfl) rfl ?_
    refine g_nil ?_
    refine g_seq ?_
    refine g_reg ?_
    refine g_v (v_move rfl) rfl ?_
    refine g_l (l_call Try.call39 rfl (ct_disk_Restart b8 sp2 0 (by decide) (by decide) (by decide) (by decide))) rfl ?_
    rintro _ _ ⟨rfl, rfl⟩
    rw [show restD 0 sp2 = sp3 from rfl]
    refine g_nil ?_
    refine g_seq ?_
    refine g_reg ?_
    refine g_v (v_move rfl) rfl ?_
    refine g_l (l_call (Pre := [dsk 184 187 b8 (sp3)]) Try.call34 rfl (ct_disk_Read b8 sp3 1)) rfl ?_
    rintro _ _ ⟨rfl, rfl⟩
    rw [show readV sp3 1 = (fullB [120, 121], 0) by decide]
    refine g_v (v_move rfl) rfl ?_
    refine g_v (v_extract (v := Str (fullB [120, 121])) rfl rfl) rfl ?_
    refine g_v (v_extract (v := errV 0) rfl rfl) rfl ?_
    refine g_v (v_assign rfl) rfl ?_
    refine g_v (v_assign rfl) rfl ?_
    refine g_nil ?_
    refine g_seq ?_
    refine g_reg ?_
    refine g_v (v_move rfl) rfl ?_
    refine g_l (l_call (Pre := []) Try.call14 rfl (ct_L_same 0 0 (by decide))) rfl ?_
    rintro _ _ ⟨rfl, rfl⟩
    refine g_v (v_move rfl) rfl ?_
    refine g_gv1 rfl rfl (by decide) (v_move rfl) rfl ?_
    refine g_gl rfl rfl (by decide) (l_call (Pre := []) Try.call14 rfl (ct_L_same 0 0 (by decide))) rfl ?_
    rintro _ _ ⟨rfl, rfl⟩
    refine g_v (v_and rfl rfl) rfl ?_
    refine g_v (v_move rfl) rfl ?_
    refine g_gv1 rfl rfl (by decide) (v_move rfl) rfl ?_
    refine g_gl rfl rfl (by decide) (l_call (Pre := []) Try.call14 rfl (ct_L_same 0 0 (by decide))) rfl ?_
    rintro _ _ ⟨rfl, rfl⟩
    refine g_v (v_and rfl rfl) rfl ?_
    refine g_v (v_move rfl) rfl ?_
    refine g_gv1 rfl rfl (by decide) (v_move rfl) rfl ?_
    refine g_gv1 rfl rfl (by decide) (v_slen Try.underlying9 rfl) rfl ?_
    refine g_gv1 rfl rfl (by decide) (v_eql rfl rfl) rfl ?_
    refine g_v (v_and rfl rfl) rfl ?_
    refine g_v (v_move rfl) rfl ?_
    refine g_gv1 rfl rfl (by decide) (v_move rfl) rfl ?_
    refine g_gv1 rfl rfl (by decide) (v_strHi (h := 2) Try.underlying9 rfl rfl rfl (by decide)) rfl ?_
    refine g_gv1 rfl rfl (by decide) (v_seql rfl rfl) rfl ?_
    refine g_v (v_and rfl rfl) rfl ?_
    refine g_v (v_move rfl) rfl ?_
    refine g_gv1 rfl rfl (by decide) (v_move rfl) rfl ?_
    refine g_gl rfl rfl (by decide) (l_call (Pre := [dsk 184 187 b8 (sp3)]) Try.call31 rfl (ct_disk_Sectors b8 sp3)) rfl ?_
    rintro _ _ ⟨rfl, rfl⟩
    refine g_gv1 rfl rfl (by decide) (v_eql rfl rfl) rfl ?_
    refine g_v (v_and rfl rfl) rfl ?_
    refine g_v (v_assign rfl) rfl ?_
    refine g_nil ?_
    refine g_ret1 rfl rfl ?_
    exact rfl

end Go.Proofs.Ythdjckbjjfiopaa
