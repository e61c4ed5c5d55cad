/- The walk through image.Changes. No condition. -/
import Derived.Test.YthdjckbjjfiopacGreatDoorImC
import Derived.Test.YthdjckbjjfiopacGreatDoorImS
import Derived.Test.YthdjckbjjfiopacGreatDoorIm
namespace Go.Proofs.YthdjckbjjfiopacGreatDoor
open Go.Sl Go.Proofs
set_option linter.unusedVariables false
set_option linter.unusedSimpArgs false
theorem bldC2 (k : Bytes) (w : World) : (Instr.build 58 #[(0, Str k), (2, Bo true)]).run Tryz.prog w = .ok (.agg (encC ⟨k, [], true⟩).toArray) w := by
  simp [Instr.build, Tryz.zeroValue58, Tryz.runUnderlying58, Tryz.sizeOf4, Tryz.sizeOf9, Instr.fill, cells_agg, encC, show (Str k).cells = #[Str k] from rfl, show (Bo true).cells = #[Bo true] from rfl]
def goK (a b : List ChangeM) : List ChangeM := (a.filter fun c => !isS b c.key).map goneC
def nwK (a b : List ChangeM) : List ChangeM := b.filter fun c => !decide (c ∈ a)
theorem goK_snoc {l b : List ChangeM} {k : Nat} {c : ChangeM} (h : l[k]? = some c) : goK (l.take (k + 1)) b = goK (l.take k) b ++ if isS b c.key = true then [] else [goneC c] := by
  unfold goK
  rw [← tk_snoc h, List.filter_append, List.map_append]
  congr 1
  cases h2 : isS b c.key <;> simp [h2]
theorem nwK_snoc {a l : List ChangeM} {k : Nat} {c : ChangeM} (h : l[k]? = some c) : nwK a (l.take (k + 1)) = nwK a (l.take k) ++ if c ∈ a then [] else [c] := by
  unfold nwK
  rw [← tk_snoc h, List.filter_append]
  congr 1
  by_cases hc : c ∈ a <;> simp [hc]
theorem goK_len (a b : List ChangeM) : (goK a b).length ≤ a.length := by unfold goK; rw [List.length_map]; exact List.length_filter_le _ _
theorem nwK_len (a b : List ChangeM) : (nwK a b).length ≤ b.length := by unfold nwK; exact List.length_filter_le _ _

theorem ct_image_Changes1 (x : ChangeM) (k : Bytes) (F : List HProp) : Ct Tryz.prog 53 [.agg (encC x).toArray, Str k] ([] ++ F) (R1 (I (Lib.compareBytes x.key k)) F) := by
  show Ct Tryz.prog 53 [.agg (encC x).toArray, Str k] (F) _
  refine Ct.of Tryz.func53 rfl 9 Tryz.ntmps53 (by simp) fun w0 => ?_
  refine g_seq ?_
  refine g_reg ?_
  refine g_l (l_box (encC x).toArray rfl rfl) rfl ?_
  rintro _ _ ⟨b2, rfl, rfl⟩
  refine g_v (v_assign rfl) rfl ?_
  refine g_nil ?_
  refine g_seq ?_
  refine g_reg ?_
  refine g_v (v_fieldAddr 0 Tryz.underlying58 rfl rfl Tryz.sizeOf9 (by decide) rfl) rfl ?_
  refine g_v (v_load (v := Str x.key) Tryz.isAgg9 rfl rfl) rfl ?_
  refine g_v (v_move rfl) rfl ?_
  refine g_l (l_call (Pre := []) Tryz.call54 rfl (ct_strings_Compare x.key k)) rfl ?_
  rintro _ _ ⟨rfl, rfl⟩
  refine g_v (v_assign rfl) rfl ?_
  refine g_nil ?_
  refine g_ret1 rfl rfl ?_
  exact rfl

theorem ct_BinarySearch_img (l : List ChangeM) (s : Option Addr) (cap : Nat) (k : Bytes) (hs : srt l) (hl : l.length ≤ 1000000) (F : List HProp) : Ct Tryz.prog 55 [sl s l.length cap, Str k, .func (.func 53) #[] #[]] ([roL 3 s (chR l)] ++ F) (R1 (.tuple #[I (lbS l k), Bo (isS l k)]) (roL 3 s (chR l) :: F)) := by
  show Ct Tryz.prog 55 [sl s l.length cap, Str k, .func (.func 53) #[] #[]] (roL 3 s (chR l) :: F) _
  refine Ct.of Tryz.func55 rfl 49 Tryz.ntmps55 (by simp) fun w0 => ?_
  refine g_seq ?_
  refine g_reg ?_
  refine g_v (v_assign rfl) rfl ?_
  refine g_v (v_assign rfl) rfl ?_
  refine g_nil ?_
  refine g_seq ?_
  refine g_reg ?_
  refine g_v (v_move rfl) rfl ?_
  refine g_v (v_len Tryz.underlying33 rfl) rfl ?_
  refine g_v (v_assign rfl) rfl ?_
  refine g_nil ?_
  refine g_seq ?_
  refine g_reg ?_
  refine g_v (v_move rfl) rfl ?_
  refine g_v (v_assign rfl) rfl ?_
  refine g_v (v_assign rfl) rfl ?_
  refine g_nil ?_
  refine g_seq ?_
  refine g_block ?_
  refine g_loop (α := Nat × Nat) (fun z => z.1 ≤ lbS l k ∧ lbS l k ≤ z.2 ∧ z.2 ≤ l.length) (fun z => U [(0, sl s l.length cap), (1, Str k), (2, .func (.func 53) #[] #[]), (8, I l.length), (9, I z.1), (10, I z.2)]) (fun _ => roL 3 s (chR l) :: F) (fun z => z.2 - z.1) (0, l.length) ⟨by simp, lb_le _ _, Nat.le_refl _⟩ [0, 1, 2, 8, 9, 10] rfl rfl ?_
  rintro ⟨i, j⟩ ⟨hi, hj, hjl⟩
  simp only [] at hi hj hjl ⊢
  refine g_seq ?_
  refine g_seq ?_
  refine g_reg ?_
  refine g_v (v_move rfl) rfl ?_
  refine g_v (v_move rfl) rfl ?_
  refine g_v (v_lss rfl rfl) rfl ?_
  refine g_nil ?_
  refine g_cond rfl (fun h17 => ?_) (fun h17 => ?_)
  · simp at h17
    refine g_skip ?_
    refine g_block ?_
    refine g_seq ?_
    have hkn : (i + j) / 2 < l.length := by omega
    obtain ⟨x, hx⟩ : ∃ x, l[(i + j) / 2]? = some x := ⟨_, List.getElem?_eq_getElem hkn⟩
    have hkr : (i + j) / 2 < (chR l).length := by rw [chR_len]; exact hkn
    have hlb := lb_iff hs k hx
    refine g_reg ?_
    refine g_v (v_move rfl) rfl ?_
    refine g_v (v_move rfl) rfl ?_
    refine g_v (v_add rfl rfl (w64 (by omega))) rfl ?_
    refine g_v (v_conv Tryz.underlying3 Tryz.underlying149 rfl (wu64 (by omega))) rfl ?_
    refine g_v (v_shr (r := (((i + j) / 2 : Nat) : Int)) rfl rfl (by decide) (by rw [show min ((1 : Int).toNat) IntKind.u64.bits = 1 by decide, Int.fdiv_eq_ediv_of_nonneg _ (by decide)]; omega)) rfl ?_
    refine g_v (v_conv Tryz.underlying149 Tryz.underlying3 rfl (w64 (by omega))) rfl ?_
    refine g_v (v_assign rfl) rfl ?_
    refine g_nil ?_
    refine g_seq ?_
    refine g_reg ?_
    refine g_v (v_move rfl) rfl ?_
    refine g_v (v_move rfl) rfl ?_
    refine g_v (v_move rfl) rfl ?_
    refine g_v (v_idxS ((i + j) / 2) Tryz.underlying33 Tryz.sizeOf58 rfl rfl rfl hkn hkr) rfl ?_
    refine g_v (v_loadAS (row := encC x) Tryz.isAgg58 Tryz.sizeOf58 rfl (chR_at hx) rfl) rfl ?_
    refine g_v (v_move rfl) rfl ?_
    refine g_l (l_callV (fi := []) (cap := []) (Pre := []) Tryz.call53 rfl rfl (ct_image_Changes1 x k)) rfl ?_
    rintro _ _ ⟨rfl, rfl⟩
    refine g_v (v_lss rfl rfl) rfl ?_
    refine g_nil ?_
    refine g_cond rfl (fun h31 => ?_) (fun h31 => ?_)
    · simp at h31
      refine g_reg ?_
      refine g_v (v_move rfl) rfl ?_
      refine g_v (v_add rfl rfl (w64 (by omega))) rfl ?_
      refine g_v (v_assign rfl) rfl ?_
      refine g_nil ?_
      refine g_blk ?_
      exact g_again ((i + j) / 2 + 1, j) ⟨by simp only []; have := hlb.1 ((cb_lt _ _).1.1 h31); omega, hj, hjl⟩ (by simp only []; omega) [0, 1, 2, 8, 9, 10] rfl rfl
    · simp at h31
      refine g_reg ?_
      refine g_v (v_move rfl) rfl ?_
      refine g_v (v_assign rfl) rfl ?_
      refine g_nil ?_
      refine g_blk ?_
      exact g_again (i, (i + j) / 2) ⟨hi, by simp only []; rcases Nat.lt_or_ge ((i + j) / 2) (lbS l k) with h | h; have := (cb_lt _ _).1.2 (hlb.2 h); omega; exact h, by simp only []; omega⟩ (by simp only []; omega) [0, 1, 2, 8, 9, 10] rfl rfl
  · simp at h17
    obtain rfl : i = lbS l k := by omega
    refine g_exit rfl ?_
    refine g_seq ?_
    refine g_reg ?_
    refine g_v (v_move rfl) rfl ?_
    refine g_v (v_move rfl) rfl ?_
    refine g_v (v_move rfl) rfl ?_
    refine g_v (v_lss rfl rfl) rfl ?_
    refine g_v (v_move rfl) rfl ?_
    by_cases hin : lbS l k < l.length
    · obtain ⟨x, hx⟩ : ∃ x, l[lbS l k]? = some x := ⟨_, List.getElem?_eq_getElem hin⟩
      have hkr : lbS l k < (chR l).length := by rw [chR_len]; exact hin
      have hb : decide ((lbS l k : Int) < l.length) = true := decide_eq_true (by omega)
      refine g_gv1 rfl rfl hb (v_move rfl) rfl ?_
      refine g_gv1 rfl rfl hb (v_move rfl) rfl ?_
      refine g_gv1 rfl rfl hb (v_move rfl) rfl ?_
      refine g_gv1 rfl rfl hb (v_idxS (lbS l k) Tryz.underlying33 Tryz.sizeOf58 rfl rfl rfl hin hkr) rfl ?_
      refine g_gv1 rfl rfl hb (v_loadAS (row := encC x) Tryz.isAgg58 Tryz.sizeOf58 rfl (chR_at hx) rfl) rfl ?_
      refine g_gv1 rfl rfl hb (v_move rfl) rfl ?_
      refine g_gl rfl rfl hb (l_callV (fi := []) (cap := []) (Pre := []) Tryz.call53 rfl rfl (ct_image_Changes1 x k)) rfl ?_
      rintro _ _ ⟨rfl, rfl⟩
      refine g_gv1 rfl rfl hb (v_eql rfl rfl) rfl ?_
      refine g_v (v_and rfl rfl) rfl ?_
      refine g_v (v_assign rfl) rfl ?_
      refine g_v (v_assign rfl) rfl ?_
      refine g_nil ?_
      exact g_ret1 rfl rfl (by rw [lb_is hs, hx]; show Value.tuple #[I (lbS l k), Bo (decide ((lbS l k : Int) < l.length) && decide (Lib.compareBytes x.key k = 0))] = _; rw [hb, Bool.true_and, decide_eq_decide.2 (cb_lt x.key k).2])
    · have hb : decide ((lbS l k : Int) < l.length) = false := decide_eq_false (by omega)
      refine g_no rfl rfl (by rw [hb]; rfl) rfl ?_
      refine g_no rfl rfl (by rw [hb]; rfl) rfl ?_
      refine g_no rfl rfl (by rw [hb]; rfl) rfl ?_
      refine g_no rfl rfl (by rw [hb]; rfl) rfl ?_
      refine g_no rfl rfl (by rw [hb]; rfl) rfl ?_
      refine g_no rfl rfl (by rw [hb]; rfl) rfl ?_
      refine g_no rfl rfl (by rw [hb]; rfl) rfl ?_
      refine g_no rfl rfl (by rw [hb]; rfl) rfl ?_
      refine g_v (v_pk2 rfl hb rfl) rfl ?_
      refine g_v (v_assign rfl) rfl ?_
      refine g_v (v_assign rfl) rfl ?_
      refine g_nil ?_
      exact g_ret1 rfl rfl (by rw [lb_is hs, List.getElem?_eq_none (by omega)]; rfl)

theorem ct_image_Changes (a b : List ChangeM) (s s' : Option Addr) (cap cap' : Nat) (ha : a.length ≤ 1000000) (hb : b.length ≤ 1000000) (hsa : srt a) (hsb : srt b) (F : List HProp) : Ct Tryz.prog 21 [sl s a.length cap, sl s' b.length cap'] ([roL 3 s (chR a), roL 3 s' (chR b)] ++ F) (RSl 58 3 (mg a b).length (chR (mg a b)) (roL 3 s (chR a) :: roL 3 s' (chR b) :: F)) := by
  show Ct Tryz.prog 21 [sl s a.length cap, sl s' b.length cap'] (roL 3 s (chR a) :: roL 3 s' (chR b) :: F) _
  refine Ct.of Tryz.func21 rfl 70 Tryz.ntmps21 (by simp) fun w0 => ?_
  refine g_seq ?_
  refine g_reg ?_
  refine g_v (v_assign rfl) rfl ?_
  refine g_nil ?_
  refine g_seq ?_
  refine g_reg ?_
  refine g_v (v_assign rfl) rfl ?_
  refine g_nil ?_
  refine g_seq ?_
  refine g_reg ?_
  refine g_v (v_assign rfl) rfl ?_
  refine g_nil ?_
  refine g_seq ?_
  refine g_seq ?_
  refine g_nilown 58 3 (chR (goK (a.take 0) b)) rfl ?_
  refine g_reg ?_
  refine g_v (v_move rfl) rfl ?_
  refine g_v (v_len Tryz.underlying33 rfl) rfl ?_
  refine g_v (v_move rfl) rfl ?_
  refine g_nil ?_
  refine g_block ?_
  refine g_loop (α := Nat × Option Addr × Nat) (fun z => z.1 ≤ a.length) (fun z => U [(0, sl s a.length cap), (1, sl s' b.length cap'), (5, sl z.2.1 (goK (a.take z.1) b).length z.2.2), (6, .func (.func 53) #[] #[]), (15, sl s a.length cap), (16, I a.length), (17, I z.1)]) (fun z => owL 58 3 z.2.1 z.2.2 (chR (goK (a.take z.1) b)) :: roL 3 s (chR a) :: roL 3 s' (chR b) :: F) (fun z => a.length - z.1) (0, none, 0) (by simp) [0, 1, 5, 6, 15, 16, 17] rfl rfl ?_
  rintro ⟨k, s3, c3⟩ hk
  simp only [] at hk ⊢
  have hgl := goK_len (a.take k) b
  rw [List.length_take] at hgl
  refine g_seq ?_
  refine g_reg ?_
  refine g_v (v_lss rfl rfl) rfl ?_
  refine g_nil ?_
  refine g_seq ?_
  refine g_cond rfl (fun h18 => ?_) (fun h18 => ?_)
  · simp at h18
    have hkn : k < a.length := by omega
    obtain ⟨x, hx⟩ : ∃ x, a[k]? = some x := ⟨_, List.getElem?_eq_getElem hkn⟩
    refine g_skip ?_
    refine g_seq ?_
    refine g_block ?_
    refine g_seq ?_
    refine g_reg ?_
    refine g_v (v_idxS k Tryz.underlying33 Tryz.sizeOf58 rfl rfl rfl hkn (by rw [chR_len]; exact hkn)) rfl ?_
    refine g_v (v_loadAS (row := encC x) Tryz.isAgg58 Tryz.sizeOf58 rfl (chR_at hx) rfl) rfl ?_
    refine g_l (l_alloc #[Str [], Str [], Bo false] Tryz.zeroValue58) rfl ?_
    rintro _ _ ⟨b8, rfl, rfl⟩
    refine g_l0 (l_storeA (cs := #[Str [], Str [], Bo false]) (vs := encC x) (encC x).toArray Tryz.sizeOf58 rfl rfl rfl rfl (by simp) (splice_whole rfl)) ?_
    rintro _ _ rfl
    refine g_nil ?_
    refine g_seq ?_
    refine g_reg ?_
    refine g_v (v_move rfl) rfl ?_
    refine g_v (v_fieldAddr 0 Tryz.underlying58 rfl rfl Tryz.sizeOf9 (by decide) rfl) rfl ?_
    refine g_v (v_load (v := Str x.key) Tryz.isAgg9 rfl rfl) rfl ?_
    refine g_v (v_move rfl) rfl ?_
    refine g_l (l_call (Pre := [roL 3 s' (chR b)]) Tryz.call55 rfl (ct_BinarySearch_img b s' cap' x.key hsb (by omega))) rfl ?_
    rintro _ _ ⟨rfl, rfl⟩
    refine g_v (v_move rfl) rfl ?_
    refine g_v (v_extract (v := I (lbS b x.key)) rfl rfl) rfl ?_
    refine g_v (v_extract (v := Bo (isS b x.key)) rfl rfl) rfl ?_
    refine g_v (v_assign rfl) rfl ?_
    refine g_v (v_assign rfl) rfl ?_
    refine g_nil ?_
    refine g_seq ?_
    refine g_reg ?_
    refine g_v (v_move rfl) rfl ?_
    refine g_v (v_not rfl) rfl ?_
    refine g_nil ?_
    refine g_cond rfl (fun h30 => ?_) (fun h30 => ?_)
    · have h30' : isS b x.key = false := by simpa using h30
      have hsn := goK_snoc (b := b) hx
      rw [h30', if_neg (by simp)] at hsn
      refine g_reg ?_
      refine g_v (v_move rfl) rfl ?_
      refine g_v (v_fieldAddr 0 Tryz.underlying58 rfl rfl Tryz.sizeOf9 (by decide) rfl) rfl ?_
      refine g_v (v_load (v := Str x.key) Tryz.isAgg9 rfl rfl) rfl ?_
      refine g_v (v_build rfl (bldC2 x.key)) rfl ?_
      refine g_l (l_buildSlice [encC (goneC x)] Tryz.underlying33 Tryz.sizeOf58 Tryz.zeroValue58 rfl rfl rfl (by intro r hr; simp at hr; subst hr; rfl) (by decide) (by decide)) rfl ?_
      rintro _ _ ⟨b35, rfl, rfl⟩
      refine g_l (l_append Tryz.underlying33 Tryz.sizeOf58 Tryz.zeroValue58 rfl Tryz.typeInfo58 (by decide) rfl rfl (chR_len _) rfl (by intro r hr; simp at hr; subst hr; rfl) (by intro r hr; simp at hr; subst hr; rfl) ⟨by omega, by decide, by decide⟩) rfl ?_
      rintro _ _ ⟨s36, c36, rfl, rfl⟩
      rw [chR_snoc]
      refine g_v (v_assign rfl) rfl ?_
      refine g_nil ?_
      refine g_blk ?_
      refine g_reg ?_
      refine g_v (v_add rfl rfl (w64 (by omega))) rfl ?_
      refine g_v (v_move rfl) rfl ?_
      refine g_nil ?_
      rw [← hsn]
      exact g_again (k + 1, s36, c36) (by simp only []; omega) (by simp only []; omega) [0, 1, 5, 6, 15, 16, 17] rfl (by first | rfl | simp [U, hsn])
    · have h30' : isS b x.key = true := by simpa using h30
      have hsn := goK_snoc (b := b) hx
      rw [h30', if_pos rfl, List.append_nil] at hsn
      refine g_skip ?_
      refine g_blk ?_
      refine g_reg ?_
      refine g_v (v_add rfl rfl (w64 (by omega))) rfl ?_
      refine g_v (v_move rfl) rfl ?_
      refine g_nil ?_
      rw [← hsn]
      exact g_again (k + 1, s3, c3) (by simp only []; omega) (by simp only []; omega) [0, 1, 5, 6, 15, 16, 17] rfl (by first | rfl | simp [U, hsn])
  · simp at h18
    obtain rfl : k = a.length := by omega
    rw [List.take_length]
    refine g_exit rfl ?_
    refine g_seq ?_
    refine g_seq ?_
    refine g_owEq s3 (chR (goK a b ++ nwK a (b.take 0))) (by simp [nwK]) ?_
    refine g_reg ?_
    refine g_v (v_move rfl) rfl ?_
    refine g_v (v_len Tryz.underlying33 rfl) rfl ?_
    refine g_v (v_move rfl) rfl ?_
    refine g_nil ?_
    refine g_block ?_
    refine g_loop (α := Nat × Option Addr × Nat) (fun z => z.1 ≤ b.length) (fun z => U [(0, sl s a.length cap), (1, sl s' b.length cap'), (5, sl z.2.1 ((goK a b).length + (nwK a (b.take z.1)).length) z.2.2), (6, .func (.func 53) #[] #[]), (38, sl s' b.length cap'), (39, I b.length), (40, I z.1)]) (fun z => owL 58 3 z.2.1 z.2.2 (chR (goK a b ++ nwK a (b.take z.1))) :: roL 3 s (chR a) :: roL 3 s' (chR b) :: F) (fun z => b.length - z.1) (0, s3, c3) (by simp) [0, 1, 5, 6, 38, 39, 40] rfl (by simp [U, nwK]) ?_
    rintro ⟨k, s3, c3⟩ hk
    simp only [] at hk ⊢
    have hgl := goK_len a b
    have hnl := nwK_len a (b.take k)
    rw [List.length_take] at hnl
    refine g_seq ?_
    refine g_reg ?_
    refine g_v (v_lss rfl rfl) rfl ?_
    refine g_nil ?_
    refine g_seq ?_
    refine g_cond rfl (fun h41 => ?_) (fun h41 => ?_)
    · simp at h41
      have hkn : k < b.length := by omega
      obtain ⟨y, hy⟩ : ∃ y, b[k]? = some y := ⟨_, List.getElem?_eq_getElem hkn⟩
      refine g_skip ?_
      refine g_seq ?_
      refine g_block ?_
      refine g_seq ?_
      refine g_reg ?_
      refine g_v (v_idxS k Tryz.underlying33 Tryz.sizeOf58 rfl rfl rfl hkn (by rw [chR_len]; exact hkn)) rfl ?_
      refine g_v (v_loadAS (row := encC y) Tryz.isAgg58 Tryz.sizeOf58 rfl (chR_at hy) rfl) rfl ?_
      refine g_l (l_alloc #[Str [], Str [], Bo false] Tryz.zeroValue58) rfl ?_
      rintro _ _ ⟨b12, rfl, rfl⟩
      refine g_l0 (l_storeA (cs := #[Str [], Str [], Bo false]) (vs := encC y) (encC y).toArray Tryz.sizeOf58 rfl rfl rfl rfl (by simp) (splice_whole rfl)) ?_
      rintro _ _ rfl
      refine g_nil ?_
      refine g_seq ?_
      refine g_reg ?_
      refine g_v (v_move rfl) rfl ?_
      refine g_v (v_fieldAddr 0 Tryz.underlying58 rfl rfl Tryz.sizeOf9 (by decide) rfl) rfl ?_
      refine g_v (v_load (v := Str y.key) Tryz.isAgg9 rfl rfl) rfl ?_
      refine g_v (v_move rfl) rfl ?_
      refine g_l (l_call (Pre := [roL 3 s (chR a)]) Tryz.call55 rfl (ct_BinarySearch_img a s cap y.key hsa (by omega))) rfl ?_
      rintro _ _ ⟨rfl, rfl⟩
      refine g_v (v_move rfl) rfl ?_
      refine g_v (v_extract (v := I (lbS a y.key)) rfl rfl) rfl ?_
      refine g_v (v_extract (v := Bo (isS a y.key)) rfl rfl) rfl ?_
      refine g_v (v_assign rfl) rfl ?_
      refine g_v (v_assign rfl) rfl ?_
      refine g_nil ?_
      refine g_seq ?_
      refine g_draw (Lf := [roL 3 s (chR a), pt b12 (.cells (encC y).toArray 58 (0, 0))]) [(0, false), (1, false), (2, false), (3, false), (4, false), (5, false), (6, false), (7, false), (8, false), (9, false)] (by kernel_rfl) (by kernel_rfl) rfl (by kernel_rfl) ?_
      refine d_v rfl (v_move rfl) rfl ?_
      refine d_v rfl (v_not rfl) rfl ?_
      refine d_v rfl (v_move rfl) rfl ?_
      by_cases hin : isS a y.key = true
      · obtain ⟨r0, hr0⟩ : ∃ r0, a[lbS a y.key]? = some r0 := by
          have h9 := hin
          rw [lb_is hsa] at h9
          split at h9
          · exact ⟨_, ‹_›⟩
          · cases h9
        have hrl := (List.getElem?_eq_some_iff.1 hr0).1
        rw [hin]
        refine d_gv1 rfl rfl rfl rfl (v_move rfl) rfl ?_
        refine d_gv1 rfl rfl rfl rfl (v_move rfl) rfl ?_
        refine d_gv1 rfl rfl rfl rfl (v_idxS (lbS a y.key) Tryz.underlying33 Tryz.sizeOf58 rfl rfl rfl hrl (by rw [chR_len]; exact hrl)) rfl ?_
        refine d_gv1 rfl rfl rfl rfl (v_loadAS (row := encC r0) Tryz.isAgg58 Tryz.sizeOf58 rfl (chR_at hr0) rfl) rfl ?_
        refine d_gv1 rfl rfl rfl rfl (v_loadA (vs := encC y) Tryz.isAgg58 Tryz.sizeOf58 rfl rfl arr_ld) rfl ?_
        refine d_gv1 rfl rfl rfl rfl (v_aneq Tryz.eqGuardType58 rfl rfl (eq_Change r0 y)) rfl ?_
        refine d_v rfl (v_pk2 rfl rfl rfl) rfl ?_
        refine d_nil ?_
        refine g_cond rfl (fun h61 => ?_) (fun h61 => ?_)
        · have hne : ¬ y ∈ a := fun h => by have h9 := ((mem_at hsa y).1 h).2; rw [hr0] at h9; injection h9 with h9; subst h9; simp at h61
          have hsn := nwK_snoc (a := a) hy
          rw [if_neg hne] at hsn
          refine g_reg ?_
          refine g_v (v_move rfl) rfl ?_
          refine g_v (v_loadA (vs := encC y) Tryz.isAgg58 Tryz.sizeOf58 rfl rfl arr_ld) rfl ?_
          refine g_l (l_buildSlice [encC (y)] Tryz.underlying33 Tryz.sizeOf58 Tryz.zeroValue58 rfl rfl rfl (by intro r hr; simp at hr; subst hr; rfl) (by decide) (by decide)) rfl ?_
          rintro _ _ ⟨b64, rfl, rfl⟩
          refine g_l (l_append Tryz.underlying33 Tryz.sizeOf58 Tryz.zeroValue58 rfl Tryz.typeInfo58 (by decide) rfl rfl (by rw [chR_len, List.length_append]) rfl (by intro r hr; simp at hr; subst hr; rfl) (by intro r hr; simp at hr; subst hr; rfl) ⟨by omega, by decide, by decide⟩) rfl ?_
          rintro _ _ ⟨s65, c65, rfl, rfl⟩
          rw [chR_snoc, List.append_assoc]
          refine g_v (v_assign rfl) rfl ?_
          refine g_nil ?_
          refine g_blk ?_
          refine g_reg ?_
          refine g_v (v_add rfl rfl (w64 (by omega))) rfl ?_
          refine g_v (v_move rfl) rfl ?_
          refine g_nil ?_
          rw [← hsn]
          exact g_again (k + 1, s65, c65) (by simp only []; omega) (by simp only []; omega) [0, 1, 5, 6, 38, 39, 40] rfl (by first | rfl | simp [U, hsn, Nat.add_assoc])
        · have hmm : y ∈ a := by have h9 : r0 = y := by simpa using h61
                                 rw [← h9]; exact List.mem_of_getElem? hr0
          have hsn := nwK_snoc (a := a) hy
          rw [if_pos hmm, List.append_nil] at hsn
          refine g_skip ?_
          refine g_blk ?_
          refine g_reg ?_
          refine g_v (v_add rfl rfl (w64 (by omega))) rfl ?_
          refine g_v (v_move rfl) rfl ?_
          refine g_nil ?_
          rw [← hsn]
          exact g_again (k + 1, s3, c3) (by simp only []; omega) (by simp only []; omega) [0, 1, 5, 6, 38, 39, 40] rfl (by first | rfl | simp [U, hsn])
      · have hin' : isS a y.key = false := by simpa using hin
        rw [hin']
        refine d_no rfl rfl rfl rfl rfl ?_
        refine d_no rfl rfl rfl rfl rfl ?_
        refine d_no rfl rfl rfl rfl rfl ?_
        refine d_no rfl rfl rfl rfl rfl ?_
        refine d_no rfl rfl rfl rfl rfl ?_
        refine d_no rfl rfl rfl rfl rfl ?_
        refine d_v rfl (v_pk1 rfl rfl rfl) rfl ?_
        refine d_nil ?_
        refine g_cond rfl (fun h61 => ?_) (fun h61 => ?_)
        · have hne : ¬ y ∈ a := fun h => hin ((mem_at hsa y).1 h).1
          have hsn := nwK_snoc (a := a) hy
          rw [if_neg hne] at hsn
          refine g_reg ?_
          refine g_v (v_move rfl) rfl ?_
          refine g_v (v_loadA (vs := encC y) Tryz.isAgg58 Tryz.sizeOf58 rfl rfl arr_ld) rfl ?_
          refine g_l (l_buildSlice [encC (y)] Tryz.underlying33 Tryz.sizeOf58 Tryz.zeroValue58 rfl rfl rfl (by intro r hr; simp at hr; subst hr; rfl) (by decide) (by decide)) rfl ?_
          rintro _ _ ⟨b64, rfl, rfl⟩
          refine g_l (l_append Tryz.underlying33 Tryz.sizeOf58 Tryz.zeroValue58 rfl Tryz.typeInfo58 (by decide) rfl rfl (by rw [chR_len, List.length_append]) rfl (by intro r hr; simp at hr; subst hr; rfl) (by intro r hr; simp at hr; subst hr; rfl) ⟨by omega, by decide, by decide⟩) rfl ?_
          rintro _ _ ⟨s65, c65, rfl, rfl⟩
          rw [chR_snoc, List.append_assoc]
          refine g_v (v_assign rfl) rfl ?_
          refine g_nil ?_
          refine g_blk ?_
          refine g_reg ?_
          refine g_v (v_add rfl rfl (w64 (by omega))) rfl ?_
          refine g_v (v_move rfl) rfl ?_
          refine g_nil ?_
          rw [← hsn]
          exact g_again (k + 1, s65, c65) (by simp only []; omega) (by simp only []; omega) [0, 1, 5, 6, 38, 39, 40] rfl (by first | rfl | simp [U, hsn, Nat.add_assoc])
        · cases h61
    · simp at h41
      obtain rfl : k = b.length := by omega
      rw [List.take_length]
      refine g_exit rfl ?_
      refine g_seq ?_
      refine g_reg ?_
      refine g_v (v_move rfl) rfl ?_
      refine g_l (l_call (Pre := [owL 58 3 s3 c3 (chR (goK a b ++ nwK a b))]) Tryz.call56 rfl (ct_SortFunc (goK a b ++ nwK a b) s3 _ c3 (by rw [List.length_append]) (by have := goK_len a b; have := nwK_len a b; rw [List.length_append]; omega))) rfl ?_
      rintro _ _ ⟨l', hp, hso, rfl, rfl⟩
      have hmg := chg_sorted hsa hsb hp hso
      subst hmg
      refine g_nil ?_
      refine g_seq ?_
      refine g_reg ?_
      refine g_v (v_move rfl) rfl ?_
      refine g_v (v_assign rfl) rfl ?_
      refine g_nil ?_
      exact g_retSl rfl rfl rfl (by rw [hp.length_eq, List.length_append])

end Go.Proofs.YthdjckbjjfiopacGreatDoor
