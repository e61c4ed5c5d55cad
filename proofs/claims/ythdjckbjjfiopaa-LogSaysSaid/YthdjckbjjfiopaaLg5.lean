/- The law's own example of a log. No condition. -/
import Derived.Test.YthdjckbjjfiopaaLg4
import Derived.Test.YthdjckbjjfiopaaLgS
import Derived.Test.YthdjckbjjfiopaaLib1
namespace Go.Proofs.Ythdjckbjjfiopaa
open Go.Sl Go.Proofs
set_option linter.unusedVariables false
set_option linter.unusedSimpArgs false
def kxL : ChangeM := ⟨[107], [120], false⟩
theorem bldKV (k v : Bytes) (w : World) : (Instr.build 95 #[(0, Str k), (1, Str v)]).run Try.prog w = .ok (.agg (encC ⟨k, v, false⟩).toArray) w := by
  simp [Instr.build, Try.zeroValue95, Try.runUnderlying95, Try.sizeOf9, Try.sizeOf4, Instr.fill, cells_agg, encC, show ∀ s : Bytes, (Str s).cells = #[Str s] from fun _ => rfl]
theorem sec_new {n from_ : Nat} {i : Nat} (h : from_ + i < n) : secD (newD n) from_ i = nulls 80 := by simp [secD, newD, h]
theorem new_80 (n : Nat) : ∀ x ∈ (newD n).now, x.length = 80 := fun x hx => by simp [newD] at hx; rw [hx.2]; simp [nulls]
theorem look_nulls {num : Nat} : lookB num (nulls 80) = none := by
  unfold lookB
  rw [if_neg]
  intro h
  have : sk (nulls 80) 0 = 0 := by decide
  rw [this] at h
  rcases h.2.1 with h | h <;> cases h
theorem scan_new {n from_ many first : Nat} (h : from_ + many ≤ n) : scanF first (secD (newD n) from_) many 0 [] [] 0 = ([], 0) := by
  cases many with
  | zero => rfl
  | succ m => exact scan_none (by rw [sec_new (by omega)]; exact look_nulls)
theorem okW_newN (n : Nat) : okW n 0 (newD n) := okW_new n
theorem up_new (n : Nat) : upW (newD n) := ⟨rfl, rfl⟩

theorem ct_L_logs  (F : List HProp) : Ct Try.prog 67 [] ([] ++ F) (R1 (Bo true) F) := by
  show Ct Try.prog 67 [] (F) _
  refine Ct.of Try.func67 rfl 49 Try.ntmps67 (by simp) fun w0 => ?_
  refine g_seq ?_
  refine g_reg ?_
  refine g_v (v_assign rfl) rfl ?_
  refine g_nil ?_
  refine g_seq ?_
  refine g_reg ?_
  refine g_l (l_call (Pre := []) Try.call29 rfl (ct_disk_New 8)) rfl ?_
  rintro _ _ (⟨hno, _, _⟩ | ⟨_, b7, rfl, rfl⟩)
  · exact absurd (by decide) hno
  rw [show newD (8 : Int).toNat = newD 8 from rfl]
  refine g_v (v_move rfl) rfl ?_
  refine g_v (v_extract (v := ptr b7 0) rfl rfl) rfl ?_
  refine g_v (v_extract (v := errV 0) rfl rfl) rfl ?_
  refine g_v (v_assign rfl) rfl ?_
  refine g_v (v_assign rfl) rfl ?_
  refine g_nil ?_
  refine g_seq ?_
  refine g_seq ?_
  refine g_reg ?_
  refine g_v (v_move rfl) rfl ?_
  refine g_v (v_ineq Try.underlying26 rfl) rfl ?_
  refine g_v (v_move rfl) rfl ?_
  refine g_gv1 rfl rfl rfl (v_move rfl) rfl ?_
  refine g_gv1 rfl rfl rfl (v_pnil Try.underlying41 rfl) rfl ?_
  refine g_v (v_or rfl rfl) rfl ?_
  refine g_nil ?_
  refine g_cond rfl (fun h15 => ?_) (fun h15 => ?_)
  · simp at h15
  · skip
    refine g_skip ?_
    refine g_seq ?_
    refine g_reg ?_
    refine g_v (v_move rfl) rfl ?_
    refine g_l (l_call (Pre := [dsk 184 187 b7 (newD 8)]) Try.call68 rfl (ct_log_Open b7 (newD 8) 2 6 1 (new_80 8) (by decide))) rfl ?_
    rintro _ _ (⟨hbad, _, _⟩ | ⟨_, hdn, _, _⟩ | ⟨_, _, bl, gl, so, co, used, rfl, _, _, hsc, rfl⟩)
    · exact absurd hbad (by decide)
    · cases hdn
    rw [show scanF (1 : Int).toNat (secD (newD 8) (2 : Int).toNat) (6 : Int).toNat 0 [] [] 0 = ([], 0) from scan_new (by decide)] at hsc
    obtain ⟨hg, rfl⟩ : gl.map (·.1) = [] ∧ used = 0 := by injection hsc with h1 h2; exact ⟨h1.symm, h2.symm⟩
    obtain rfl : gl = [] := List.map_eq_nil_iff.1 hg
    rw [show lgC b7 (2 : Int).toNat (6 : Int).toNat (1 : Int).toNat 0 = lgC b7 2 6 1 0 from rfl]
    refine g_v (v_move rfl) rfl ?_
    refine g_v (v_extract (v := ptr bl 0) rfl rfl) rfl ?_
    refine g_v (v_extract (v := sl so 0 co) rfl rfl) rfl ?_
    refine g_v (v_extract (v := errV 0) rfl rfl) rfl ?_
    refine g_v (v_assign rfl) rfl ?_
    refine g_v (v_assign rfl) rfl ?_
    refine g_v (v_assign rfl) rfl ?_
    refine g_nil ?_
    refine g_seq ?_
    refine g_seq ?_
    refine g_reg ?_
    refine g_v (v_move rfl) rfl ?_
    refine g_v (v_ineq Try.underlying26 rfl) rfl ?_
    refine g_v (v_move rfl) rfl ?_
    refine g_gv1 rfl rfl rfl (v_move rfl) rfl ?_
    refine g_gv1 rfl rfl rfl (v_pnil Try.underlying109 rfl) rfl ?_
    refine g_v (v_or rfl rfl) rfl ?_
    refine g_v (v_move rfl) rfl ?_
    refine g_gv1 rfl rfl rfl (v_move rfl) rfl ?_
    refine g_gv1 rfl rfl rfl (v_len Try.underlying110 rfl) rfl ?_
    refine g_gv1 rfl rfl rfl (v_neq rfl rfl) rfl ?_
    refine g_v (v_or rfl rfl) rfl ?_
    refine g_nil ?_
    refine g_cond rfl (fun h32 => ?_) (fun h32 => ?_)
    · simp at h32
    · skip
      refine g_skip ?_
      refine g_seq ?_
      refine g_reg ?_
      refine g_v (v_move rfl) rfl ?_
      refine g_v (v_build rfl (bldKV [107] [120])) rfl ?_
      refine g_l (l_buildSlice [encC kxL] Try.underlying50 Try.sizeOf95 Try.zeroValue95 rfl rfl rfl (by decide) (by decide) (by decide)) rfl ?_
      rintro _ _ ⟨b35, rfl, rfl⟩
      refine g_freeze (T := 95) (cap := 1) (some ⟨b35, 0, none⟩) ?_
      rw [show [encC kxL] = chR [kxL] from rfl]
      refine g_l (l_call (Pre := [pt bl (.cells (lgC b7 2 6 1 (0)) 206 (0, 0)), dsk 184 187 b7 (newD 8), roL 3 (some ⟨b35, 0, none⟩) (chR [kxL])]) Try.call73 rfl (ct_log_Add bl b7 2 6 1 0 [kxL] (some ⟨b35, 0, none⟩) 1 8 0 (newD 8) (okW_newN 8) (by decide) (by decide) (by decide))) rfl ?_
      rintro _ _ ⟨rfl, rfl⟩
      have hsc : scanF 1 (fun i => (newD 8).now.getD (2 + i) []) 6 0 [] [] 0 = ([], 0) := scan_new (by decide)
      have hE := (add_up (many := 6) (c := [kxL]) (up_new 8) (new_80 8) (by decide) (by decide) hsc).1
      rw [show addU 2 6 1 0 [kxL] (newD 8) = 2 by unfold addU; rw [if_pos hE]; rfl, hE]
      refine g_v (v_assign rfl) rfl ?_
      refine g_nil ?_
      refine g_seq ?_
      refine g_reg ?_
      refine g_v (v_move rfl) rfl ?_
      refine g_l (l_call (Pre := []) Try.call14 rfl (ct_L_same (0) (0) (by decide))) rfl ?_
      rintro _ _ ⟨rfl, rfl⟩
      rw [show decide ((0 : Int) = 0) = true from rfl]
      refine g_v (v_move rfl) rfl ?_
      refine g_gv1 rfl rfl rfl (v_move rfl) rfl ?_
      refine g_gl rfl rfl rfl (l_call (Pre := [pt bl (.cells (lgC b7 2 6 1 (2)) 206 (0, 0))]) Try.call71 rfl (ct_log_Room bl b7 2 6 1 2 (by decide))) rfl ?_
      rintro _ _ ⟨rfl, rfl⟩
      refine g_gv1 rfl rfl rfl (v_eql rfl rfl) rfl ?_
      refine g_v (v_and rfl rfl) rfl ?_
      refine g_v (v_move rfl) rfl ?_
      refine g_gv1 rfl rfl rfl (v_move rfl) rfl ?_
      refine g_gl rfl rfl rfl (l_call (Pre := [pt bl (.cells (lgC b7 2 6 1 (2)) 206 (0, 0))]) Try.call72 rfl (ct_log_Next bl b7 2 6 1 2 (by decide))) rfl ?_
      rintro _ _ ⟨rfl, rfl⟩
      refine g_gv1 rfl rfl rfl (v_eql rfl rfl) rfl ?_
      refine g_v (v_and rfl rfl) rfl ?_
      refine g_v (v_assign rfl) rfl ?_
      refine g_nil ?_
      refine g_ret1 rfl rfl ?_
      show Bo _ = Bo true
      simp

end Go.Proofs.Ythdjckbjjfiopaa
