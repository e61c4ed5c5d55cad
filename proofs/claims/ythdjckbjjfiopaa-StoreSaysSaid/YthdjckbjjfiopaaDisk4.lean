/- Walks through new disks. No condition. -/
import Derived.Test.YthdjckbjjfiopaaDisk3
namespace Go.Proofs.Ythdjckbjjfiopaa
open Go.Sl Go.Proofs
set_option linter.unusedVariables false
set_option linter.unusedSimpArgs false
def newD (n : Nat) : DiskM := ⟨List.replicate n (nulls 80), List.replicate n (nulls 80), [], -1, false⟩
def RNew (E : Int → Value) (T TT : Nat) (n : Int) (F : List HProp) : Value → List HProp → Prop := fun v L' => (¬ (1 ≤ n ∧ n ≤ 260) ∧ v = .tuple #[.pointer none, E 1] ∧ L' = F) ∨ ((1 ≤ n ∧ n ≤ 260) ∧ ∃ b, v = .tuple #[ptr b 0, E 0] ∧ L' = dsk T TT b (newD n.toNat) :: F)
theorem rep_app (k : Nat) (x : Bytes) : strR (List.replicate k x) ++ [[Str x]] = strR (List.replicate (k + 1) x) := by simp [strR, List.replicate_succ']
section
variable {c : Cx} {E : Env} {L : List HProp} {K : List KI}
theorem g_retNone {Ev : Int → Value} {T TT : Nat} {n : Int} {F : List HProp} {vs : List Value} (hR : c.R = RNew Ev T TT n F) (hr : resOf E c.fn.results.toList = some vs) (hn : ¬ (1 ≤ n ∧ n ≤ 260)) (hv : tup vs = .tuple #[.pointer none, Ev 1]) [S : Sub L F] (hds : c.n.ds = [] := by rfl) : G c (.code .ret :: K) E L :=
  fun a w hE hS => wp_ret (kq_ret (res_fpost (hds := hds) hr hE (S.sat hS) (by rw [hR]; exact .inl ⟨hn, hv, rfl⟩)))
theorem g_retSome {Ev : Int → Value} {T TT : Nat} {n : Int} {F : List HProp} {vs : List Value} (b : Nat) (hR : c.R = RNew Ev T TT n F) (hr : resOf E c.fn.results.toList = some vs) (hn : 1 ≤ n ∧ n ≤ 260) (hv : tup vs = .tuple #[ptr b 0, Ev 0]) [S : Sub L (dsk T TT b (newD n.toNat) :: F)] (hds : c.n.ds = [] := by rfl) : G c (.code .ret :: K) E L :=
  fun a w hE hS => wp_ret (kq_ret (res_fpost (hds := hds) hr hE (S.sat hS) (by rw [hR]; exact .inr ⟨hn, b, hv, rfl⟩)))
end

theorem ct_disk_New (n : Int) (F : List HProp) : Ct Try.prog 29 [I n] ([] ++ F) (RNew errV 184 187 n F) := by
  show Ct Try.prog 29 [I n] (F) _
  refine Ct.of Try.func29 rfl 21 Try.ntmps29 (by simp) fun w0 => ?_
  refine g_seq ?_
  refine g_reg ?_
  refine g_v (v_assign rfl) rfl ?_
  refine g_v (v_assign rfl) rfl ?_
  refine g_nil ?_
  refine g_seq ?_
  refine g_seq ?_
  refine g_reg ?_
  refine g_v (v_move rfl) rfl ?_
  refine g_v (v_lss rfl rfl) rfl ?_
  refine g_v (v_move rfl) rfl ?_
  refine g_gv rfl rfl (fun hg => v_move rfl) rfl rfl ?_
  refine g_gv rfl rfl (fun hg => v_gtr rfl rfl) rfl rfl ?_
  refine g_v (v_or rfl rfl) rfl ?_
  refine g_nil ?_
  refine g_cond rfl (fun h10 => ?_) (fun h10 => ?_)
  · simp at h10
    refine g_seq ?_
    refine g_reg ?_
    refine g_v (v_iface Try.underlying172 rfl rfl) rfl ?_
    refine g_v (v_assign rfl) rfl ?_
    refine g_v (v_assign rfl) rfl ?_
    refine g_nil ?_
    exact g_retNone rfl rfl (by omega) rfl
  · simp at h10
    refine g_skip ?_
    refine g_seq ?_
    refine g_reg ?_
    refine g_l (l_call (Pre := []) Try.call127 rfl (ct_disk_full [] (by decide))) rfl ?_
    rintro _ _ ⟨rfl, rfl⟩
    rw [show fullB [] = nulls 80 from rfl]
    refine g_l (l_buildSlice [[Str (nulls 80)]] Try.underlying61 Try.sizeOf9 Try.zeroValue9 rfl rfl rfl (by simp) (by decide) (by decide)) rfl ?_
    rintro _ _ ⟨b13, rfl, rfl⟩
    refine g_v (v_move rfl) rfl ?_
    refine g_freeze (some ⟨b13, 0, none⟩) ?_
    refine g_l (l_call (Pre := [roL 1 (some ⟨b13, 0, none⟩) [[Str (nulls 80)]]]) Try.call126 rfl (by have := ct_Repeat_str (nulls 80) (some ⟨b13, 0, none⟩) 1 n.toNat (by omega); rwa [Int.toNat_of_nonneg (by omega)] at this)) rfl ?_
    rintro _ _ ⟨s15, c15, rfl, rfl⟩
    refine g_fact (φ := ∃ a, s15 = some a) (fun w hS => ?_) (fun ha => ?_)
    · rcases owL_open hS with ⟨_, h, _, _⟩ | ⟨b, cs, h, _⟩
      · exfalso; have h2 := congrArg List.length h; simp [strR] at h2; omega
      · exact ⟨_, h⟩
    obtain ⟨a15, rfl⟩ := ha
    refine g_v (v_assign rfl) rfl ?_
    refine g_nil ?_
    refine g_seq ?_
    refine g_reg ?_
    refine g_v (v_move rfl) rfl ?_
    refine g_v (v_move rfl) rfl ?_
    refine g_l (l_call (Pre := [owL 9 1 (some a15) c15 (strR (List.replicate n.toNat (nulls 80)))]) Try.call128 rfl (by have := ct_Clone_str (List.replicate n.toNat (nulls 80)) a15 c15 (by simp; omega); rw [List.length_replicate] at this; exact this)) rfl ?_
    rintro _ _ ⟨s18, c18, rfl, rfl⟩
    refine g_v (v_build rfl (bld184_0_1_3 _ rfl _ rfl _ rfl)) rfl ?_
    refine g_l (l_box #[sl (some a15) n.toNat c15, sl s18 n.toNat c18, sl none 0 0, I (-1), Bo false] rfl rfl) rfl ?_
    rintro _ _ ⟨b20, rfl, rfl⟩
    refine g_v (v_assign rfl) rfl ?_
    refine g_v (v_assign rfl) rfl ?_
    refine g_nil ?_
    refine g_nilown 187 2 (turnR []) rfl ?_
    refine g_pack (A := dskP 184 187 b20 (newD n.toNat)) [pt b20 (.cells #[sl (some a15) n.toNat c15, sl s18 n.toNat c18, sl none 0 0, I (-1), Bo false] 184 (0, 0)), owL 9 1 (some a15) c15 (strR (List.replicate n.toNat (nulls 80))), owL 9 1 s18 c18 (strR (List.replicate n.toNat (nulls 80))), owL 187 2 none 0 (turnR [])] (dsk 184 187 b20 (newD n.toNat)) ((some a15, c15), (s18, c18), (none, 0)) rfl (by simp [dskP, newD]) ?_
    exact g_retSome b20 rfl rfl (by omega) rfl

theorem ct_R_NewDisk (n : Int) (F : List HProp) : Ct Try.prog 30 [I n] ([] ++ F) (RNew I 64 188 n F) := by
  show Ct Try.prog 30 [I n] (F) _
  refine Ct.of Try.func30 rfl 40 Try.ntmps30 (by simp) fun w0 => ?_
  refine g_seq ?_
  refine g_reg ?_
  refine g_v (v_assign rfl) rfl ?_
  refine g_v (v_assign rfl) rfl ?_
  refine g_nil ?_
  refine g_seq ?_
  refine g_seq ?_
  refine g_reg ?_
  refine g_v (v_move rfl) rfl ?_
  refine g_v (v_lss rfl rfl) rfl ?_
  refine g_v (v_move rfl) rfl ?_
  refine g_gv rfl rfl (fun hg => v_move rfl) rfl rfl ?_
  refine g_gv rfl rfl (fun hg => v_gtr rfl rfl) rfl rfl ?_
  refine g_v (v_or rfl rfl) rfl ?_
  refine g_nil ?_
  refine g_cond rfl (fun h11 => ?_) (fun h11 => ?_)
  · try simp at h11
    refine g_seq ?_
    refine g_reg ?_
    refine g_v (v_assign rfl) rfl ?_
    refine g_v (v_assign rfl) rfl ?_
    refine g_nil ?_
    exact g_retNone rfl rfl (by omega) rfl
  · try simp at h11
    refine g_skip ?_
    refine g_seq ?_
    refine g_reg ?_
    refine g_v (v_build rfl (bld64_3 _ rfl)) rfl ?_
    refine g_l (l_box #[sl none 0 0, sl none 0 0, sl none 0 0, I (-1), Bo false] rfl rfl) rfl ?_
    rintro _ _ ⟨b13, rfl, rfl⟩
    refine g_v (v_assign rfl) rfl ?_
    refine g_nil ?_
    refine g_seq ?_
    refine g_seq ?_
    refine g_reg ?_
    refine g_v (v_assign rfl) rfl ?_
    refine g_nil ?_
    refine g_nilown 9 1 (strR (List.replicate 0 (nulls 80))) rfl ?_
    refine g_nilown 9 1 (strR (List.replicate 0 (nulls 80))) rfl ?_
    refine g_block ?_
    refine g_loop (α := Nat × (Option Addr × Nat) × (Option Addr × Nat)) (fun z => z.1 ≤ n.toNat) (fun z => U [(0, I n), (4, ptr b13 0), (5, I z.1)]) (fun z => pt b13 (.cells #[sl z.2.1.1 z.1 z.2.1.2, sl z.2.2.1 z.1 z.2.2.2, sl none 0 0, I (-1), Bo false] 64 (0, 0)) :: owL 9 1 z.2.1.1 z.2.1.2 (strR (List.replicate (z.1) (nulls 80))) :: owL 9 1 z.2.2.1 z.2.2.2 (strR (List.replicate (z.1) (nulls 80))) :: F) (fun z => n.toNat - z.1) (0, (none, 0), (none, 0)) (by simp) [0, 4, 5] rfl rfl ?_
    rintro ⟨k, ⟨s1, c1⟩, ⟨s2, c2⟩⟩ hk
    simp only [] at hk ⊢
    refine g_seq ?_
    refine g_seq ?_
    refine g_reg ?_
    refine g_v (v_move rfl) rfl ?_
    refine g_v (v_move rfl) rfl ?_
    refine g_v (v_lss rfl rfl) rfl ?_
    refine g_nil ?_
    refine g_cond rfl (fun h16 => ?_) (fun h16 => ?_)
    · simp at h16
      refine g_skip ?_
      refine g_seq ?_
      refine g_block ?_
      refine g_seq ?_
      refine g_drawZ (Lf := pt b13 (.cells #[sl s1 k c1, sl s2 k c2, sl none 0 0, I (-1), Bo false] 64 (0, 0)) :: F) [(0, false), (1, false), (2, false), (3, false), (4, false), (5, true), (6, true), (7, true), (8, false), (9, false)] 10 rfl (by kernel_rfl) (by kernel_rfl) rfl (by kernel_rfl) (by kernel_rfl) ?_
      refine d_v rfl (v_move rfl) rfl ?_
      refine d_v rfl (v_move rfl) rfl ?_
      refine d_v rfl (v_nilCheck rfl) rfl ?_
      refine d_v rfl (v_fieldAddr 0 Try.underlying64 rfl rfl Try.sizeOf61 (by decide) rfl) rfl ?_
      refine d_v rfl (v_load Try.isAgg61 rfl rfl) rfl ?_
      refine d_l rfl (l_call (Pre := []) Try.call129 rfl (ct_R_noughts 80 (by decide))) rfl ?_
      rintro _ _ ⟨rfl, rfl⟩
      refine d_l rfl (l_buildSlice [[Str (nulls 80)]] Try.underlying61 Try.sizeOf9 Try.zeroValue9 rfl rfl rfl (by simp) (by decide) (by decide)) rfl ?_
      rintro _ _ ⟨b25, rfl, rfl⟩
      refine d_l rfl (l_append Try.underlying61 Try.sizeOf9 Try.zeroValue9 rfl Try.typeInfo9 (by decide) rfl rfl (by simp [strR]) rfl (by simp) (by simp [ones, one]) ⟨by omega, by decide, by decide⟩) rfl ?_
      rintro _ _ ⟨s26, c26, rfl, rfl⟩
      rw [rep_app]
      refine d_v rfl (v_nilCheck rfl) rfl ?_
      refine d_v rfl (v_fieldAddr 0 Try.underlying64 rfl rfl Try.sizeOf61 (by decide) rfl) rfl ?_
      refine d_nil ?_
      refine g_l0 (l_store #[sl s26 (k + 1) c26, sl s2 k c2, sl none 0 0, I (-1), Bo false] Try.sizeOf61 rfl rfl rfl (by simp) rfl) ?_
      rintro _ _ rfl
      refine g_nil ?_
      refine g_drawZ (Lf := pt b13 (.cells #[sl s26 (k + 1) c26, sl s2 k c2, sl none 0 0, I (-1), Bo false] 64 (0, 0)) :: F) [(0, false), (1, false), (2, false), (3, false), (4, false), (5, true), (6, true), (7, true), (8, false), (9, false)] 10 rfl (by kernel_rfl) (by kernel_rfl) rfl (by kernel_rfl) (by kernel_rfl) ?_
      refine d_v rfl (v_move rfl) rfl ?_
      refine d_v rfl (v_move rfl) rfl ?_
      refine d_v rfl (v_nilCheck rfl) rfl ?_
      refine d_v rfl (v_fieldAddr 1 Try.underlying64 rfl rfl Try.sizeOf61 (by decide) rfl) rfl ?_
      refine d_v rfl (v_load Try.isAgg61 rfl rfl) rfl ?_
      refine d_l rfl (l_call (Pre := []) Try.call129 rfl (ct_R_noughts 80 (by decide))) rfl ?_
      rintro _ _ ⟨rfl, rfl⟩
      refine d_l rfl (l_buildSlice [[Str (nulls 80)]] Try.underlying61 Try.sizeOf9 Try.zeroValue9 rfl rfl rfl (by simp) (by decide) (by decide)) rfl ?_
      rintro _ _ ⟨b35, rfl, rfl⟩
      refine d_l rfl (l_append Try.underlying61 Try.sizeOf9 Try.zeroValue9 rfl Try.typeInfo9 (by decide) rfl rfl (by simp [strR]) rfl (by simp) (by simp [ones, one]) ⟨by omega, by decide, by decide⟩) rfl ?_
      rintro _ _ ⟨s36, c36, rfl, rfl⟩
      rw [rep_app]
      refine d_v rfl (v_nilCheck rfl) rfl ?_
      refine d_v rfl (v_fieldAddr 1 Try.underlying64 rfl rfl Try.sizeOf61 (by decide) rfl) rfl ?_
      refine d_nil ?_
      refine g_l0 (l_store #[sl s26 (k + 1) c26, sl s36 (k + 1) c36, sl none 0 0, I (-1), Bo false] Try.sizeOf61 rfl rfl rfl (by simp) rfl) ?_
      rintro _ _ rfl
      refine g_nil ?_
      refine g_blk ?_
      refine g_reg ?_
      refine g_v (v_move rfl) rfl ?_
      refine g_v (v_add rfl rfl (w64 (by omega))) rfl ?_
      refine g_v (v_assign rfl) rfl ?_
      refine g_nil ?_
      exact g_again (k + 1, (s26, c26), (s36, c36)) (by simp; omega) (by simp; omega) [0, 4, 5] rfl rfl
    · simp at h16
      obtain rfl : k = n.toNat := by omega
      refine g_exit rfl ?_
      refine g_seq ?_
      refine g_reg ?_
      refine g_v (v_move rfl) rfl ?_
      refine g_v (v_assign rfl) rfl ?_
      refine g_v (v_assign rfl) rfl ?_
      refine g_nil ?_
      refine g_nilown 188 2 (turnR []) rfl ?_
      refine g_pack (A := dskP 64 188 b13 (newD n.toNat)) [pt b13 (.cells #[sl s1 n.toNat c1, sl s2 n.toNat c2, sl none 0 0, I (-1), Bo false] 64 (0, 0)), owL 9 1 s1 c1 (strR (List.replicate (n.toNat) (nulls 80))), owL 9 1 s2 c2 (strR (List.replicate (n.toNat) (nulls 80))), owL 188 2 none 0 (turnR [])] (dsk 64 188 b13 (newD n.toNat)) ((s1, c1), (s2, c2), (none, 0)) rfl (by simp [dskP, newD]) ?_
      exact g_retSome b13 rfl rfl (by omega) rfl

end Go.Proofs.Ythdjckbjjfiopaa
