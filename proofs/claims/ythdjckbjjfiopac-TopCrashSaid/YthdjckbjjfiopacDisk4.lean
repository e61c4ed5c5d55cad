/- Walks through new disks. No condition. -/
import Derived.Test.YthdjckbjjfiopacDisk3
namespace Go.Proofs.Ythdjckbjjfiopac
open Go.Sl Go.Proofs
set_option linter.unusedVariables false
set_option linter.unusedSimpArgs false
def newD (n : Nat) : DiskM := ⟨List.replicate n (nulls 80), List.replicate n (nulls 80), [], -1, false⟩
def RNew (E : Int → Value) (T TT : Nat) (n : Int) (F : List HProp) : Value → List HProp → Prop := fun v L' => (¬ (1 ≤ n ∧ n ≤ 260) ∧ v = .tuple #[.pointer none, E 1] ∧ L' = F) ∨ ((1 ≤ n ∧ n ≤ 260) ∧ ∃ b, v = .tuple #[ptr b 0, E 0] ∧ L' = dsk T TT b (newD n.toNat) :: F)
theorem rep_app (k : Nat) (x : Bytes) : strR (List.replicate k x) ++ [[Str x]] = strR (List.replicate (k + 1) x) := by simp [strR, List.replicate_succ']
section
variable {c : Cx} {E : Env} {L : List HProp} {K : List KI}
theorem g_retNone {Ev : Int → Value} {T TT : Nat} {n : Int} {F : List HProp} {vs : List Value} (hR : c.R = RNew Ev T TT n F) (hr : resOf E c.fn.results.toList = some vs) (hn : ¬ (1 ≤ n ∧ n ≤ 260)) (hv : tup vs = .tuple #[.pointer none, Ev 1]) [S : Sub L F] (hds : c.n.ds = [] := by rfl) : G c (.code .ret :: K) E L :=
  fun a w hE hS => wp_ret (kq_ret (res_fpost (hds := hds) hr hE (S.sat hS) (by rw [hR]; exact .inl ⟨hn, hv, rfl⟩)))
theorem g_retSome {Ev : Int → Value} {T TT : Nat} {n : Int} {F : List HProp} {vs : List Value} (b : Nat) (hR : c.R = RNew Ev T TT n F) (hr : resOf E c.fn.results.toList = some vs) (hn : 1 ≤ n ∧ n ≤ 260) (hv : tup vs = .tuple #[ptr b 0, Ev 0]) [S : Sub L (dsk T TT b (newD n.toNat) :: F)] (hds : c.n.ds = [] := by rfl) : G c (.code .ret :: K) E L :=
  fun a w hE hS => wp_ret (kq_ret (res_fpost (hds := hds) hr hE (S.sat hS) (by rw [hR]; exact .inr ⟨hn, b, hv, rfl⟩)))
end

theorem ct_disk_New (n : Int) (F : List HProp) : Ct Try.prog 54 [I n] ([] ++ F) (RNew errV 117 135 n F) := by
  show Ct Try.prog 54 [I n] (F) _
  refine Ct.of Try.func54 rfl 21 Try.ntmps54 (by simp) fun w0 => ?_
  refine g_seq ?_
  refine g_reg ?_
  refine g_v (v_assign rfl) rfl ?_
  refine g_v (v_assign rfl) rfl ?_
  refine g_nil ?_
  refine g_seq ?_
  refine g_seq ?_
  refine g_reg ?_
  refine g_v (v_move rfl) rfl ?_
  refine g_v (v_lss rfl rfl) rfl ?_
  refine g_v (v_move rfl) rfl ?_
  refine g_gv rfl rfl (fun hg => v_move rfl) rfl rfl ?_
  refine g_gv rfl rfl (fun hg => v_gtr rfl rfl) rfl rfl ?_
  refine g_v (v_or rfl rfl) rfl ?_
  refine g_nil ?_
  refine g_cond rfl (fun h10 => ?_) (fun h10 => ?_)
  · simp at h10
    refine g_seq ?_
    refine g_reg ?_
    refine g_v (v_iface Try.underlying94 rfl rfl) rfl ?_
    refine g_v (v_assign rfl) rfl ?_
    refine g_v (v_assign rfl) rfl ?_
    refine g_nil ?_
    exact g_retNone rfl rfl (by omega) rfl
  · simp at h10
    refine g_skip ?_
    refine g_seq ?_
    refine g_reg ?_
    refine g_l (l_call (Pre := []) Try.call83 rfl (ct_disk_full [] (by decide))) rfl ?_
    rintro _ _ ⟨rfl, rfl⟩
    rw [show fullB [] = nulls 80 from rfl]
    refine g_l (l_buildSlice [[Str (nulls 80)]] Try.underlying28 Try.sizeOf9 Try.zeroValue9 rfl rfl rfl (by simp) (by decide) (by decide)) rfl ?_
    rintro _ _ ⟨b13, rfl, rfl⟩
    refine g_v (v_move rfl) rfl ?_
    refine g_freeze (some ⟨b13, 0, none⟩) ?_
    refine g_l (l_call (Pre := [roL 1 (some ⟨b13, 0, none⟩) [[Str (nulls 80)]]]) Try.call82 rfl (by have := ct_Repeat_str (nulls 80) (some ⟨b13, 0, none⟩) 1 n.toNat (by omega); rwa [Int.toNat_of_nonneg (by omega)] at this)) rfl ?_
    rintro _ _ ⟨s15, c15, rfl, rfl⟩
    refine g_fact (φ := ∃ a, s15 = some a) (fun w hS => ?_) (fun ha => ?_)
    · rcases owL_open hS with ⟨_, h, _, _⟩ | ⟨b, cs, h, _⟩
      · exfalso; have h2 := congrArg List.length h; simp [strR] at h2; omega
      · exact ⟨_, h⟩
    obtain ⟨a15, rfl⟩ := ha
    refine g_v (v_assign rfl) rfl ?_
    refine g_nil ?_
    refine g_seq ?_
    refine g_reg ?_
    refine g_v (v_move rfl) rfl ?_
    refine g_v (v_move rfl) rfl ?_
    refine g_l (l_call (Pre := [owL 9 1 (some a15) c15 (strR (List.replicate n.toNat (nulls 80)))]) Try.call84 rfl (by have := ct_Clone_str (List.replicate n.toNat (nulls 80)) a15 c15 (by simp; omega); rw [List.length_replicate] at this; exact this)) rfl ?_
    rintro _ _ ⟨s18, c18, rfl, rfl⟩
    refine g_v (v_build rfl (bld117_0_1_3 _ rfl _ rfl _ rfl)) rfl ?_
    refine g_l (l_box #[sl (some a15) n.toNat c15, sl s18 n.toNat c18, sl none 0 0, I (-1), Bo false] rfl rfl) rfl ?_
    rintro _ _ ⟨b20, rfl, rfl⟩
    refine g_v (v_assign rfl) rfl ?_
    refine g_v (v_assign rfl) rfl ?_
    refine g_nil ?_
    refine g_nilown 135 2 (turnR []) rfl ?_
    refine g_pack (A := dskP 117 135 b20 (newD n.toNat)) [pt b20 (.cells #[sl (some a15) n.toNat c15, sl s18 n.toNat c18, sl none 0 0, I (-1), Bo false] 117 (0, 0)), owL 9 1 (some a15) c15 (strR (List.replicate n.toNat (nulls 80))), owL 9 1 s18 c18 (strR (List.replicate n.toNat (nulls 80))), owL 135 2 none 0 (turnR [])] (dsk 117 135 b20 (newD n.toNat)) ((some a15, c15), (s18, c18), (none, 0)) rfl (by simp [dskP, newD]) ?_
    exact g_retSome b20 rfl rfl (by omega) rfl

-- counterfoil/counterfoilref.NewDisk is not in this seat
end Go.Proofs.Ythdjckbjjfiopac
