/- Walks through the laws' own stores. No condition. -/
import Derived.Test.YthdjckbjjfiopacStC
import Derived.Test.YthdjckbjjfiopacStF
import Derived.Test.YthdjckbjjfiopacStI
import Derived.Test.YthdjckbjjfiopacLib1
import Derived.Test.YthdjckbjjfiopacDisk4
namespace Go.Proofs.Ythdjckbjjfiopac
open Go Go.Sl Go.Proofs
set_option linter.unusedVariables false
set_option linter.unusedSimpArgs false
def fD (N : Nat) : DiskM := (runS (newD N) (fmL N)).2
theorem new_len (N : Nat) : (newD N).now.length = N := by simp [newD]
theorem new_S80 (N : Nat) : S80 (newD N) := ⟨fun x hx => by simp [newD] at hx; rw [hx.2]; simp [nulls], fun x hx => by simp [newD] at hx; rw [hx.2]; simp [nulls], fun t ht => by simp [newD] at ht⟩
theorem new_up (N : Nat) : upW (newD N) := ⟨rfl, rfl⟩
theorem new_blank {N m : Nat} (h : m < N) : (newD N).now.getD m [] = fullB [] := by simp [newD, h, fullB]
theorem new_ep {N : Nat} (h : 2 ≤ N) : (bestH (newD N).now).ep = 0 := blank_ep (new_blank (by omega)) (new_blank (by omega))
theorem fD_run {N : Nat} (hN : 196 ≤ N) : runS (newD N) (fmL N) = (0, fD N) := Prod.ext (run_up _ _ (new_up N) (by rw [new_len]; exact fmL_ok hN)).1 rfl
theorem fD_up {N : Nat} (hN : 196 ≤ N) : upW (fD N) := (run_up _ _ (new_up N) (by rw [new_len]; exact fmL_ok hN)).2.1
theorem fD_inv {N : Nat} (hN : 196 ≤ N ∧ N ≤ 260) : Inv N (fD N) hd1 [] [] 0 := fmt_inv hN (new_len N) (run_up _ _ (new_up N) (by rw [new_len]; exact fmL_ok hN.1)).2.2
theorem fD_S80 {N : Nat} (hN : 196 ≤ N) : S80 (fD N) := S80_run _ _ (new_S80 N) (fmL_ok hN)
theorem fD_ok {N : Nat} (hN : 196 ≤ N ∧ N ≤ 260) : okW N 300 (fD N) := okW_le (okW_run (fmL N) 0 (newD N) (okW_new N)) (by unfold fmL fmT; rw [List.length_append, fmW_len]; simp only [List.length_cons, List.length_nil]; omega)
theorem ep1 : (bestH (fD 200).now).ep ≠ 0 → True := fun _ => trivial
theorem inv_ep {N : Nat} {D : DiskM} {h : HdM} {r0 : List ChangeM} {ds : Deeds} {used : Nat} (I : Inv N D h r0 ds used) : (bestH D.now).ep ≠ 0 := by
  rw [I.good.best]
  have := I.good.ep
  omega
def kxL : ChangeM := ⟨[107], [120], false⟩

theorem ct_L_Stored (N : Nat) (hN : 196 ≤ N ∧ N ≤ 260) (F : List HProp) : Ct Try.prog 30 [I N] ([] ++ F) (fun v L' => ∃ bd bs bl s cap, v = .tuple #[ptr bd 0, ptr bs 0, Bo true] ∧ L' = pt bs (.cells (stC bd (hd1) bl s ((cur [] []).length) cap) 123 (0, 0)) :: pt bl (.cells (lgC bd 122 (N - 122) (hd1.first) (0)) 154 (0, 0)) :: dsk 117 135 bd (fD N) :: roL 3 s (chR (cur [] [])) :: F) := by
  show Ct Try.prog 30 [I N] (F) _
  refine Ct.of Try.func30 rfl 37 Try.ntmps30 (by simp) fun w0 => ?_
  refine g_seq ?_
  refine g_reg ?_
  refine g_v (v_assign rfl) rfl ?_
  refine g_v (v_assign rfl) rfl ?_
  refine g_v (v_assign rfl) rfl ?_
  refine g_nil ?_
  refine g_seq ?_
  refine g_reg ?_
  refine g_v (v_move rfl) rfl ?_
  refine g_l (l_call (Pre := []) Try.call54 rfl (ct_disk_New (N : Int))) rfl ?_
  rintro _ _ (⟨hno, _, _⟩ | ⟨_, b10, rfl, rfl⟩)
  · exact absurd (by omega) hno
  rw [show ((N : Nat) : Int).toNat = N from rfl]
  refine g_v (v_move rfl) rfl ?_
  refine g_v (v_extract (v := ptr b10 0) rfl rfl) rfl ?_
  refine g_v (v_extract (v := errV 0) rfl rfl) rfl ?_
  refine g_v (v_assign rfl) rfl ?_
  refine g_v (v_assign rfl) rfl ?_
  refine g_nil ?_
  refine g_seq ?_
  refine g_seq ?_
  refine g_reg ?_
  refine g_v (v_move rfl) rfl ?_
  refine g_v (v_ineq Try.underlying33 rfl) rfl ?_
  refine g_v (v_move rfl) rfl ?_
  refine g_gv1 rfl rfl rfl (v_move rfl) rfl ?_
  refine g_gv1 rfl rfl rfl (v_pnil Try.underlying69 rfl) rfl ?_
  refine g_v (v_or rfl rfl) rfl ?_
  refine g_v (v_move rfl) rfl ?_
  refine g_gv1 rfl rfl rfl (v_move rfl) rfl ?_
  refine g_gl rfl rfl rfl (l_call (Pre := [dsk 117 135 b10 (newD N)]) Try.call55 rfl (ct_store_Format b10 N 0 (newD N) (okW_new N) (by decide) hN.2)) rfl ?_
  rintro _ _ (⟨h1, _, _⟩ | ⟨_, e, D1, hr, rfl, rfl⟩)
  · exact absurd h1 (by omega)
  rw [fD_run hN.1] at hr
  injection hr with q1 q2
  subst q1 q2
  refine g_gv1 rfl rfl rfl (v_ineq Try.underlying33 rfl) rfl ?_
  refine g_v (v_or rfl rfl) rfl ?_
  refine g_nil ?_
  refine g_cond rfl (fun h23 => ?_) (fun h23 => ?_)
  · simp at h23
  · skip
    refine g_skip ?_
    refine g_seq ?_
    refine g_reg ?_
    refine g_v (v_move rfl) rfl ?_
    refine g_l (l_call (Pre := [dsk 117 135 b10 (fD N)]) Try.call37 rfl (ct_store_Open b10 N (fD N) ((fD_inv hN).len) (by omega) ((fD_S80 hN.1).2.1) (hd1) ([]) ([]) (0) (fun _ _ _ => (fD_inv hN).good))) rfl ?_
    rintro _ _ (⟨hdn, _, _⟩ | ⟨_, h196, _, _⟩ | ⟨_, _, he0, _, _⟩ | ⟨_, _, _, bs, bl, so, co, rfl, rfl⟩)
    · rw [(fD_up hN.1).1] at hdn; cases hdn
    · exact absurd h196 (by omega)
    · exact absurd he0 (inv_ep (fD_inv hN))
    refine g_v (v_move rfl) rfl ?_
    refine g_v (v_extract (v := ptr bs 0) rfl rfl) rfl ?_
    refine g_v (v_extract (v := errV 0) rfl rfl) rfl ?_
    refine g_v (v_assign rfl) rfl ?_
    refine g_v (v_assign rfl) rfl ?_
    refine g_nil ?_
    refine g_seq ?_
    refine g_reg ?_
    refine g_v (v_move rfl) rfl ?_
    refine g_v (v_move rfl) rfl ?_
    refine g_v (v_move rfl) rfl ?_
    refine g_v (v_ieql Try.underlying33 rfl) rfl ?_
    refine g_v (v_move rfl) rfl ?_
    refine g_gv1 rfl rfl rfl (v_move rfl) rfl ?_
    refine g_gv1 rfl rfl rfl (v_pnnil Try.underlying70 rfl) rfl ?_
    refine g_v (v_and rfl rfl) rfl ?_
    refine g_v (v_assign rfl) rfl ?_
    refine g_v (v_assign rfl) rfl ?_
    refine g_v (v_assign rfl) rfl ?_
    refine g_nil ?_
    exact g_retAny (pt bs (.cells (stC b10 (hd1) bl so ((cur [] []).length) co) 123 (0, 0)) :: pt bl (.cells (lgC b10 122 (N - 122) (hd1.first) (0)) 154 (0, 0)) :: dsk 117 135 b10 (fD N) :: roL 3 so (chR (cur [] [])) :: F) rfl ⟨b10, bs, bl, so, co, rfl, rfl⟩

-- counterfoil/counterfoillaw.stores is not in this seat
end Go.Proofs.Ythdjckbjjfiopac
