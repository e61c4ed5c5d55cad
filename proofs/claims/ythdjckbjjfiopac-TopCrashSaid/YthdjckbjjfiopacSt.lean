/- Walks through package store: numbers, heads. No condition. -/
import Derived.Test.YthdjckbjjfiopacStM
import Derived.Test.YthdjckbjjfiopacLg2
import Derived.Test.YthdjckbjjfiopacSlF
import Derived.Test.YthdjckbjjfiopacTypes2
namespace Go.Proofs.Ythdjckbjjfiopac
open Go.Sl Go.Proofs
set_option linter.unusedVariables false
set_option linter.unusedSimpArgs false
theorem shlN (q x : Nat) (hq : q ≤ 24) (hx : x < 256) : IntKind.i64.wrap ((x : Int) * 2 ^ (min ((q : Nat) : Int).toNat IntKind.i64.bits)) = ((2 ^ q * x : Nat) : Int) := by
  rw [show ((q : Nat) : Int).toNat = q from rfl, show min q IntKind.i64.bits = q from Nat.min_eq_left (by show q ≤ 64; omega)]
  have h2 : 2 ^ q * x < 2 ^ 24 * 256 := Nat.lt_of_le_of_lt (Nat.mul_le_mul_right x (Nat.pow_le_pow_right (by decide) hq)) (Nat.mul_lt_mul_of_pos_left hx (by decide))
  rw [show (x : Int) * 2 ^ q = ((2 ^ q * x : Nat) : Int) by rw [Nat.mul_comm]; push_cast; rfl]
  exact w64 (by omega)
abbrev stC (bd : Nat) (h : HdM) (bl : Nat) (s : Option Addr) (n cap : Nat) : Array Value := #[ptr bd 0, I h.ep, I h.side, I h.size, I h.first, ptr bl 0, sl s n cap]

theorem ct_store_four (n : Nat) (F : List HProp) : Ct Try.prog 89 [I n] ([] ++ F) (R1 (Str (fourN n)) F) := by
  show Ct Try.prog 89 [I n] (F) _
  refine Ct.of Try.func89 rfl 16 Try.ntmps89 (by simp) fun w0 => ?_
  refine g_seq ?_
  refine g_reg ?_
  refine g_v (v_assign rfl) rfl ?_
  refine g_nil ?_
  refine g_seq ?_
  refine g_reg ?_
  refine g_v (v_move rfl) rfl ?_
  refine g_v (v_conv (r := ((n % 256 : Nat) : Int)) Try.underlying3 Try.underlying5 rfl (wu8 _)) rfl ?_
  refine g_v (v_move rfl) rfl ?_
  refine g_v (v_shr (r := ((n / 256 : Nat) : Int)) rfl rfl (by decide) (fdivN n 256)) rfl ?_
  refine g_v (v_conv (r := ((n / 256 % 256 : Nat) : Int)) Try.underlying3 Try.underlying5 rfl (wu8 _)) rfl ?_
  refine g_v (v_move rfl) rfl ?_
  refine g_v (v_shr (r := ((n / 65536 : Nat) : Int)) rfl rfl (by decide) (fdivN n 65536)) rfl ?_
  refine g_v (v_conv (r := ((n / 65536 % 256 : Nat) : Int)) Try.underlying3 Try.underlying5 rfl (wu8 _)) rfl ?_
  refine g_v (v_move rfl) rfl ?_
  refine g_v (v_shr (r := ((n / 16777216 : Nat) : Int)) rfl rfl (by decide) (fdivN n 16777216)) rfl ?_
  refine g_v (v_conv (r := ((n / 16777216 % 256 : Nat) : Int)) Try.underlying3 Try.underlying5 rfl (wu8 _)) rfl ?_
  refine g_l (l_buildSlice (bytesR (fourN n)) Try.underlying128 Try.sizeOf5 Try.zeroValue5 rfl rfl (fourN_rows n) (by simp [bytesR]) (by decide) (by decide)) rfl ?_
  rintro _ _ ⟨b14, rfl, rfl⟩
  refine g_v (v_bytesStr (l := fourN n) Try.underlying128 Try.underlying5 Try.underlying9 rfl rfl rfl) rfl ?_
  refine g_v (v_assign rfl) rfl ?_
  refine g_nil ?_
  refine g_ret1 rfl rfl ?_
  exact rfl

theorem ct_store_unfour (s : Bytes) (hs : s.length = 4) (F : List HProp) : Ct Try.prog 102 [Str s] ([] ++ F) (R1 (I (unN s)) F) := by
  show Ct Try.prog 102 [Str s] (F) _
  refine Ct.of Try.func102 rfl 21 Try.ntmps102 (by simp) fun w0 => ?_
  have h0 := u8_lt (sk s 0)
  have h1 := u8_lt (sk s 1)
  have h2 := u8_lt (sk s 2)
  have h3 := u8_lt (sk s 3)
  refine g_seq ?_
  refine g_reg ?_
  refine g_v (v_assign rfl) rfl ?_
  refine g_nil ?_
  refine g_seq ?_
  refine g_drawL [(0, false), (1, false), (2, false), (3, false), (4, false), (5, false), (6, false), (7, false), (8, false), (9, false), (10, false), (11, false), (12, false), (13, false), (14, false), (15, false), (16, false), (17, false), (18, false)] (by kernel_rfl) (by kernel_rfl) rfl (by kernel_rfl) ?_
  refine d_v rfl (v_move rfl) rfl ?_
  refine d_v rfl (v_indexStr (r := sk s 0) 0 Try.underlying9 rfl rfl rfl (sk_at (by omega))) rfl ?_
  refine d_v rfl (v_conv (r := (((sk s 0).toNat : Nat) : Int)) Try.underlying5 Try.underlying3 rfl (w64 (by omega))) rfl ?_
  refine d_v rfl (v_move rfl) rfl ?_
  refine d_v rfl (v_indexStr (r := sk s 1) 1 Try.underlying9 rfl rfl rfl (sk_at (by omega))) rfl ?_
  refine d_v rfl (v_conv (r := (((sk s 1).toNat : Nat) : Int)) Try.underlying5 Try.underlying3 rfl (w64 (by omega))) rfl ?_
  refine d_v rfl (v_shl (r := ((2 ^ 8 * (sk s 1).toNat : Nat) : Int)) rfl rfl (by decide) (shlN 8 _ (by decide) (by omega))) rfl ?_
  refine d_v rfl (v_bor (sk s 0).toNat 8 _ rfl rfl (by omega) (by omega)) rfl ?_
  refine d_v rfl (v_move rfl) rfl ?_
  refine d_v rfl (v_indexStr (r := sk s 2) 2 Try.underlying9 rfl rfl rfl (sk_at (by omega))) rfl ?_
  refine d_v rfl (v_conv (r := (((sk s 2).toNat : Nat) : Int)) Try.underlying5 Try.underlying3 rfl (w64 (by omega))) rfl ?_
  refine d_v rfl (v_shl (r := ((2 ^ 16 * (sk s 2).toNat : Nat) : Int)) rfl rfl (by decide) (shlN 16 _ (by decide) (by omega))) rfl ?_
  refine d_v rfl (v_bor ((sk s 0).toNat + 2 ^ 8 * (sk s 1).toNat) 16 _ rfl rfl (by omega) (by omega)) rfl ?_
  refine d_v rfl (v_move rfl) rfl ?_
  refine d_v rfl (v_indexStr (r := sk s 3) 3 Try.underlying9 rfl rfl rfl (sk_at (by omega))) rfl ?_
  refine d_v rfl (v_conv (r := (((sk s 3).toNat : Nat) : Int)) Try.underlying5 Try.underlying3 rfl (w64 (by omega))) rfl ?_
  refine d_v rfl (v_shl (r := ((2 ^ 24 * (sk s 3).toNat : Nat) : Int)) rfl rfl (by decide) (shlN 24 _ (by decide) (by omega))) rfl ?_
  refine d_v rfl (v_bor ((sk s 0).toNat + 2 ^ 8 * (sk s 1).toNat + 2 ^ 16 * (sk s 2).toNat) 24 _ rfl rfl (by omega) (by omega)) rfl ?_
  refine d_v rfl (v_assign rfl) rfl ?_
  refine d_nil ?_
  refine g_ret1 rfl rfl ?_
  exact rfl

theorem ct_store_text (h : HdM) (F : List HProp) : Ct Try.prog 61 [.agg (encH h).toArray] ([] ++ F) (R1 (Str (headB h)) F) := by
  show Ct Try.prog 61 [.agg (encH h).toArray] (F) _
  refine Ct.of Try.func61 rfl 19 Try.ntmps61 (by simp) fun w0 => ?_
  refine g_seq ?_
  refine g_reg ?_
  refine g_l (l_box (encH h).toArray rfl rfl) rfl ?_
  rintro _ _ ⟨b1, rfl, rfl⟩
  refine g_v (v_assign rfl) rfl ?_
  refine g_nil ?_
  refine g_seq ?_
  refine g_drawL [(0, false), (1, false), (4, false), (5, false), (8, false), (9, false), (12, false), (13, false), (2, true), (3, false), (6, true), (7, false), (10, true), (11, false), (14, true), (15, false), (16, false)] (by kernel_rfl) (by kernel_rfl) rfl (by kernel_rfl) ?_
  refine d_v rfl (v_fieldAddr 0 Try.underlying120 rfl rfl Try.sizeOf3 (by decide) rfl) rfl ?_
  refine d_v rfl (v_load (v := I h.ep) Try.isAgg3 rfl rfl) rfl ?_
  refine d_v rfl (v_fieldAddr 1 Try.underlying120 rfl rfl Try.sizeOf3 (by decide) rfl) rfl ?_
  refine d_v rfl (v_load (v := I h.side) Try.isAgg3 rfl rfl) rfl ?_
  refine d_v rfl (v_fieldAddr 2 Try.underlying120 rfl rfl Try.sizeOf3 (by decide) rfl) rfl ?_
  refine d_v rfl (v_load (v := I h.size) Try.isAgg3 rfl rfl) rfl ?_
  refine d_v rfl (v_fieldAddr 3 Try.underlying120 rfl rfl Try.sizeOf3 (by decide) rfl) rfl ?_
  refine d_v rfl (v_load (v := I h.first) Try.isAgg3 rfl rfl) rfl ?_
  refine d_l rfl (l_call (Pre := []) Try.call89 rfl (ct_store_four h.ep)) rfl ?_
  rintro _ _ ⟨rfl, rfl⟩
  refine d_v rfl (v_cat rfl rfl (by simp [fourN])) rfl ?_
  refine d_l rfl (l_call (Pre := []) Try.call89 rfl (ct_store_four h.side)) rfl ?_
  rintro _ _ ⟨rfl, rfl⟩
  refine d_v rfl (v_cat rfl rfl (by simp [fourN])) rfl ?_
  refine d_l rfl (l_call (Pre := []) Try.call89 rfl (ct_store_four h.size)) rfl ?_
  rintro _ _ ⟨rfl, rfl⟩
  refine d_v rfl (v_cat rfl rfl (by simp [fourN])) rfl ?_
  refine d_l rfl (l_call (Pre := []) Try.call89 rfl (ct_store_four h.first)) rfl ?_
  rintro _ _ ⟨rfl, rfl⟩
  refine d_v rfl (v_cat rfl rfl (by simp [fourN])) rfl ?_
  refine d_v rfl (v_assign rfl) rfl ?_
  refine d_nil ?_
  refine g_ret1 rfl rfl ?_
  exact rfl

theorem ct_store_headOf (s : Bytes) (hs : s.length = 80) (F : List HProp) : Ct Try.prog 70 [Str s] ([] ++ F) (R1 (.agg (encH (headO s)).toArray) F) := by
  show Ct Try.prog 70 [Str s] (F) _
  refine Ct.of Try.func70 rfl 37 Try.ntmps70 (by simp) fun w0 => ?_
  refine g_seq ?_
  refine g_reg ?_
  refine g_l (l_alloc #[I 0, I 0, I 0, I 0] Try.zeroValue120) rfl ?_
  rintro _ _ ⟨b2, rfl, rfl⟩
  refine g_nil ?_
  refine g_seq ?_
  refine g_drawT (Lf := []) (.q 0 (.q 1 (.q 3 (.q 4 (.q 6 (.q 7 (.q 9 (.q 10 (.alt (.l 2 (.alt (.l 5 (.alt (.l 8 (.alt (.l 11 (.q 12 (.l 13 (.l 14 (.nil))))) (.l 13 (.l 11 (.q 12 (.l 14 (.nil))))))) (.l 13 (.l 8 (.l 11 (.q 12 (.l 14 (.nil)))))))) (.l 13 (.l 5 (.l 8 (.l 11 (.q 12 (.l 14 (.nil))))))))) (.l 13 (.l 2 (.l 5 (.l 8 (.l 11 (.q 12 (.l 14 (.nil))))))))))))))))) (by kernel_rfl) (by kernel_rfl) (by kernel_rfl) ?_
  refine t_v rfl (v_move rfl) rfl ?_
  refine t_v rfl (v_strBoth (l := 1) (h := 5) Try.underlying9 rfl rfl rfl rfl rfl (by decide) (by omega)) rfl ?_
  refine t_v rfl (v_move rfl) rfl ?_
  refine t_v rfl (v_strBoth (l := 5) (h := 9) Try.underlying9 rfl rfl rfl rfl rfl (by decide) (by omega)) rfl ?_
  refine t_v rfl (v_move rfl) rfl ?_
  refine t_v rfl (v_strBoth (l := 9) (h := 13) Try.underlying9 rfl rfl rfl rfl rfl (by decide) (by omega)) rfl ?_
  refine t_v rfl (v_move rfl) rfl ?_
  refine t_v rfl (v_strBoth (l := 13) (h := 17) Try.underlying9 rfl rfl rfl rfl rfl (by decide) (by omega)) rfl ?_
  refine t_alt ?_ ?_
  · skip
    refine t_l rfl (l_call (Pre := []) Try.call102 rfl (ct_store_unfour ((s.take 5).drop 1) (by simp only [List.length_drop, List.length_take]; omega))) rfl ?_
    rintro _ _ ⟨rfl, rfl⟩
    refine t_alt ?_ ?_
    · skip
      refine t_l rfl (l_call (Pre := []) Try.call102 rfl (ct_store_unfour ((s.take 9).drop 5) (by simp only [List.length_drop, List.length_take]; omega))) rfl ?_
      rintro _ _ ⟨rfl, rfl⟩
      refine t_alt ?_ ?_
      · skip
        refine t_l rfl (l_call (Pre := []) Try.call102 rfl (ct_store_unfour ((s.take 13).drop 9) (by simp only [List.length_drop, List.length_take]; omega))) rfl ?_
        rintro _ _ ⟨rfl, rfl⟩
        refine t_alt ?_ ?_
        · skip
          refine t_l rfl (l_call (Pre := []) Try.call102 rfl (ct_store_unfour ((s.take 17).drop 13) (by simp only [List.length_drop, List.length_take]; omega))) rfl ?_
          rintro _ _ ⟨rfl, rfl⟩
          refine t_v rfl (v_build rfl (bld120_0_1_2_3 _ rfl _ rfl _ rfl _ rfl)) rfl ?_
          refine t_l rfl (l_alloc #[I 0, I 0, I 0, I 0] Try.zeroValue120) rfl ?_
          rintro _ _ ⟨b3, rfl, rfl⟩
          refine t_l0 rfl (l_storeA (cs := #[I 0, I 0, I 0, I 0]) (vs := encH (rawH s)) (encH (rawH s)).toArray Try.sizeOf120 rfl rfl rfl rfl (by decide) (splice_all rfl)) ?_
          rintro _ _ rfl
          refine t_nil ?_
          refine g_seq ?_
          refine g_seq ?_
          refine g_reg ?_
          refine g_v (v_move rfl) rfl ?_
          refine g_v (v_indexStr (r := sk s 0) 0 Try.underlying9 rfl rfl rfl (sk_at (by omega))) rfl ?_
          refine g_v (v_neq rfl rfl) rfl ?_
          refine g_v (v_move rfl) rfl ?_
          refine g_gv rfl rfl (fun hg => v_fieldAddr 1 Try.underlying120 rfl rfl Try.sizeOf3 (by decide) rfl) rfl rfl ?_
          refine g_gv rfl rfl (fun hg => v_load (v := I (rawH s).side) Try.isAgg3 rfl rfl) rfl rfl ?_
          refine g_gv rfl rfl (fun hg => v_gtr rfl rfl) rfl rfl ?_
          refine g_v (v_or rfl rfl) rfl ?_
          refine g_v (v_move rfl) rfl ?_
          refine g_gv rfl rfl (fun hg => v_fieldAddr 2 Try.underlying120 rfl rfl Try.sizeOf3 (by decide) rfl) rfl rfl ?_
          refine g_gv rfl rfl (fun hg => v_load (v := I (rawH s).size) Try.isAgg3 rfl rfl) rfl rfl ?_
          refine g_gv rfl rfl (fun hg => v_gtr rfl rfl) rfl rfl ?_
          refine g_v (v_or rfl rfl) rfl ?_
          refine g_v (v_move rfl) rfl ?_
          refine g_gv rfl rfl (fun hg => v_fieldAddr 3 Try.underlying120 rfl rfl Try.sizeOf3 (by decide) rfl) rfl rfl ?_
          refine g_gv rfl rfl (fun hg => v_load (v := I (rawH s).first) Try.isAgg3 rfl rfl) rfl rfl ?_
          refine g_gv rfl rfl (fun hg => v_lss rfl rfl) rfl rfl ?_
          refine g_v (v_or rfl rfl) rfl ?_
          refine g_nil ?_
          refine g_cond rfl (fun h34 => ?_) (fun h34 => ?_)
          · have hoff : offH s := by
              unfold offH
              simp at h34
              rcases h34 with ((h | h) | h) | h
              · exact .inl (fun e => h (by rw [e]; rfl))
              · exact .inr (.inl (by omega))
              · exact .inr (.inr (.inl (by omega)))
              · exact .inr (.inr (.inr (by omega)))
            refine g_seq ?_
            refine g_reg ?_
            refine g_v (v_build rfl (bld120_ )) rfl ?_
            refine g_l0 (l_storeA (cs := #[I 0, I 0, I 0, I 0]) (vs := encH HdM.no) (encH HdM.no).toArray Try.sizeOf120 rfl rfl rfl rfl (by decide) (splice_all rfl)) ?_
            rintro _ _ rfl
            refine g_nil ?_
            first
            | exact g_retCA (encH HdM.no) (by unfold headO; rw [if_pos hoff]) rfl rfl Try.isAgg120 Try.sizeOf120 rfl arr_ld
            | exact g_retCA (encH (rawH s)) (by unfold headO; rw [if_neg hoff]) rfl rfl Try.isAgg120 Try.sizeOf120 rfl arr_ld
          · have hoff : ¬ offH s := by
              unfold offH
              simp at h34
              rintro (h | h | h | h)
              · exact h (UInt8.toNat_inj.1 (by rw [show (72 : UInt8).toNat = 72 from rfl]; omega))
              · omega
              · omega
              · omega
            refine g_skip ?_
            refine g_seq ?_
            refine g_reg ?_
            refine g_v (v_loadA (vs := encH (rawH s)) Try.isAgg120 Try.sizeOf120 rfl rfl arr_ld) rfl ?_
            refine g_l0 (l_storeA (cs := #[I 0, I 0, I 0, I 0]) (vs := encH (rawH s)) (encH (rawH s)).toArray Try.sizeOf120 rfl rfl rfl rfl (by decide) (splice_all rfl)) ?_
            rintro _ _ rfl
            refine g_nil ?_
            first
            | exact g_retCA (encH HdM.no) (by unfold headO; rw [if_pos hoff]) rfl rfl Try.isAgg120 Try.sizeOf120 rfl arr_ld
            | exact g_retCA (encH (rawH s)) (by unfold headO; rw [if_neg hoff]) rfl rfl Try.isAgg120 Try.sizeOf120 rfl arr_ld
        · skip
          refine t_l rfl (l_alloc #[I 0, I 0, I 0, I 0] Try.zeroValue120) rfl ?_
          rintro _ _ ⟨b3, rfl, rfl⟩
          refine t_l rfl (l_call (Pre := []) Try.call102 rfl (ct_store_unfour ((s.take 17).drop 13) (by simp only [List.length_drop, List.length_take]; omega))) rfl ?_
          rintro _ _ ⟨rfl, rfl⟩
          refine t_v rfl (v_build rfl (bld120_0_1_2_3 _ rfl _ rfl _ rfl _ rfl)) rfl ?_
          refine t_l0 rfl (l_storeA (cs := #[I 0, I 0, I 0, I 0]) (vs := encH (rawH s)) (encH (rawH s)).toArray Try.sizeOf120 rfl rfl rfl rfl (by decide) (splice_all rfl)) ?_
          rintro _ _ rfl
          refine t_nil ?_
          refine g_seq ?_
          refine g_seq ?_
          refine g_reg ?_
          refine g_v (v_move rfl) rfl ?_
          refine g_v (v_indexStr (r := sk s 0) 0 Try.underlying9 rfl rfl rfl (sk_at (by omega))) rfl ?_
          refine g_v (v_neq rfl rfl) rfl ?_
          refine g_v (v_move rfl) rfl ?_
          refine g_gv rfl rfl (fun hg => v_fieldAddr 1 Try.underlying120 rfl rfl Try.sizeOf3 (by decide) rfl) rfl rfl ?_
          refine g_gv rfl rfl (fun hg => v_load (v := I (rawH s).side) Try.isAgg3 rfl rfl) rfl rfl ?_
          refine g_gv rfl rfl (fun hg => v_gtr rfl rfl) rfl rfl ?_
          refine g_v (v_or rfl rfl) rfl ?_
          refine g_v (v_move rfl) rfl ?_
          refine g_gv rfl rfl (fun hg => v_fieldAddr 2 Try.underlying120 rfl rfl Try.sizeOf3 (by decide) rfl) rfl rfl ?_
          refine g_gv rfl rfl (fun hg => v_load (v := I (rawH s).size) Try.isAgg3 rfl rfl) rfl rfl ?_
          refine g_gv rfl rfl (fun hg => v_gtr rfl rfl) rfl rfl ?_
          refine g_v (v_or rfl rfl) rfl ?_
          refine g_v (v_move rfl) rfl ?_
          refine g_gv rfl rfl (fun hg => v_fieldAddr 3 Try.underlying120 rfl rfl Try.sizeOf3 (by decide) rfl) rfl rfl ?_
          refine g_gv rfl rfl (fun hg => v_load (v := I (rawH s).first) Try.isAgg3 rfl rfl) rfl rfl ?_
          refine g_gv rfl rfl (fun hg => v_lss rfl rfl) rfl rfl ?_
          refine g_v (v_or rfl rfl) rfl ?_
          refine g_nil ?_
          refine g_cond rfl (fun h34 => ?_) (fun h34 => ?_)
          · have hoff : offH s := by
              unfold offH
              simp at h34
              rcases h34 with ((h | h) | h) | h
              · exact .inl (fun e => h (by rw [e]; rfl))
              · exact .inr (.inl (by omega))
              · exact .inr (.inr (.inl (by omega)))
              · exact .inr (.inr (.inr (by omega)))
            refine g_seq ?_
            refine g_reg ?_
            refine g_v (v_build rfl (bld120_ )) rfl ?_
            refine g_l0 (l_storeA (cs := #[I 0, I 0, I 0, I 0]) (vs := encH HdM.no) (encH HdM.no).toArray Try.sizeOf120 rfl rfl rfl rfl (by decide) (splice_all rfl)) ?_
            rintro _ _ rfl
            refine g_nil ?_
            first
            | exact g_retCA (encH HdM.no) (by unfold headO; rw [if_pos hoff]) rfl rfl Try.isAgg120 Try.sizeOf120 rfl arr_ld
            | exact g_retCA (encH (rawH s)) (by unfold headO; rw [if_neg hoff]) rfl rfl Try.isAgg120 Try.sizeOf120 rfl arr_ld
          · have hoff : ¬ offH s := by
              unfold offH
              simp at h34
              rintro (h | h | h | h)
              · exact h (UInt8.toNat_inj.1 (by rw [show (72 : UInt8).toNat = 72 from rfl]; omega))
              · omega
              · omega
              · omega
            refine g_skip ?_
            refine g_seq ?_
            refine g_reg ?_
            refine g_v (v_loadA (vs := encH (rawH s)) Try.isAgg120 Try.sizeOf120 rfl rfl arr_ld) rfl ?_
            refine g_l0 (l_storeA (cs := #[I 0, I 0, I 0, I 0]) (vs := encH (rawH s)) (encH (rawH s)).toArray Try.sizeOf120 rfl rfl rfl rfl (by decide) (splice_all rfl)) ?_
            rintro _ _ rfl
            refine g_nil ?_
            first
            | exact g_retCA (encH HdM.no) (by unfold headO; rw [if_pos hoff]) rfl rfl Try.isAgg120 Try.sizeOf120 rfl arr_ld
            | exact g_retCA (encH (rawH s)) (by unfold headO; rw [if_neg hoff]) rfl rfl Try.isAgg120 Try.sizeOf120 rfl arr_ld
      · skip
        refine t_l rfl (l_alloc #[I 0, I 0, I 0, I 0] Try.zeroValue120) rfl ?_
        rintro _ _ ⟨b3, rfl, rfl⟩
        refine t_l rfl (l_call (Pre := []) Try.call102 rfl (ct_store_unfour ((s.take 13).drop 9) (by simp only [List.length_drop, List.length_take]; omega))) rfl ?_
        rintro _ _ ⟨rfl, rfl⟩
        refine t_l rfl (l_call (Pre := []) Try.call102 rfl (ct_store_unfour ((s.take 17).drop 13) (by simp only [List.length_drop, List.length_take]; omega))) rfl ?_
        rintro _ _ ⟨rfl, rfl⟩
        refine t_v rfl (v_build rfl (bld120_0_1_2_3 _ rfl _ rfl _ rfl _ rfl)) rfl ?_
        refine t_l0 rfl (l_storeA (cs := #[I 0, I 0, I 0, I 0]) (vs := encH (rawH s)) (encH (rawH s)).toArray Try.sizeOf120 rfl rfl rfl rfl (by decide) (splice_all rfl)) ?_
        rintro _ _ rfl
        refine t_nil ?_
        refine g_seq ?_
        refine g_seq ?_
        refine g_reg ?_
        refine g_v (v_move rfl) rfl ?_
        refine g_v (v_indexStr (r := sk s 0) 0 Try.underlying9 rfl rfl rfl (sk_at (by omega))) rfl ?_
        refine g_v (v_neq rfl rfl) rfl ?_
        refine g_v (v_move rfl) rfl ?_
        refine g_gv rfl rfl (fun hg => v_fieldAddr 1 Try.underlying120 rfl rfl Try.sizeOf3 (by decide) rfl) rfl rfl ?_
        refine g_gv rfl rfl (fun hg => v_load (v := I (rawH s).side) Try.isAgg3 rfl rfl) rfl rfl ?_
        refine g_gv rfl rfl (fun hg => v_gtr rfl rfl) rfl rfl ?_
        refine g_v (v_or rfl rfl) rfl ?_
        refine g_v (v_move rfl) rfl ?_
        refine g_gv rfl rfl (fun hg => v_fieldAddr 2 Try.underlying120 rfl rfl Try.sizeOf3 (by decide) rfl) rfl rfl ?_
        refine g_gv rfl rfl (fun hg => v_load (v := I (rawH s).size) Try.isAgg3 rfl rfl) rfl rfl ?_
        refine g_gv rfl rfl (fun hg => v_gtr rfl rfl) rfl rfl ?_
        refine g_v (v_or rfl rfl) rfl ?_
        refine g_v (v_move rfl) rfl ?_
        refine g_gv rfl rfl (fun hg => v_fieldAddr 3 Try.underlying120 rfl rfl Try.sizeOf3 (by decide) rfl) rfl rfl ?_
        refine g_gv rfl rfl (fun hg => v_load (v := I (rawH s).first) Try.isAgg3 rfl rfl) rfl rfl ?_
        refine g_gv rfl rfl (fun hg => v_lss rfl rfl) rfl rfl ?_
        refine g_v (v_or rfl rfl) rfl ?_
        refine g_nil ?_
        refine g_cond rfl (fun h34 => ?_) (fun h34 => ?_)
        · have hoff : offH s := by
            unfold offH
            simp at h34
            rcases h34 with ((h | h) | h) | h
            · exact .inl (fun e => h (by rw [e]; rfl))
            · exact .inr (.inl (by omega))
            · exact .inr (.inr (.inl (by omega)))
            · exact .inr (.inr (.inr (by omega)))
          refine g_seq ?_
          refine g_reg ?_
          refine g_v (v_build rfl (bld120_ )) rfl ?_
          refine g_l0 (l_storeA (cs := #[I 0, I 0, I 0, I 0]) (vs := encH HdM.no) (encH HdM.no).toArray Try.sizeOf120 rfl rfl rfl rfl (by decide) (splice_all rfl)) ?_
          rintro _ _ rfl
          refine g_nil ?_
          first
          | exact g_retCA (encH HdM.no) (by unfold headO; rw [if_pos hoff]) rfl rfl Try.isAgg120 Try.sizeOf120 rfl arr_ld
          | exact g_retCA (encH (rawH s)) (by unfold headO; rw [if_neg hoff]) rfl rfl Try.isAgg120 Try.sizeOf120 rfl arr_ld
        · have hoff : ¬ offH s := by
            unfold offH
            simp at h34
            rintro (h | h | h | h)
            · exact h (UInt8.toNat_inj.1 (by rw [show (72 : UInt8).toNat = 72 from rfl]; omega))
            · omega
            · omega
            · omega
          refine g_skip ?_
          refine g_seq ?_
          refine g_reg ?_
          refine g_v (v_loadA (vs := encH (rawH s)) Try.isAgg120 Try.sizeOf120 rfl rfl arr_ld) rfl ?_
          refine g_l0 (l_storeA (cs := #[I 0, I 0, I 0, I 0]) (vs := encH (rawH s)) (encH (rawH s)).toArray Try.sizeOf120 rfl rfl rfl rfl (by decide) (splice_all rfl)) ?_
          rintro _ _ rfl
          refine g_nil ?_
          first
          | exact g_retCA (encH HdM.no) (by unfold headO; rw [if_pos hoff]) rfl rfl Try.isAgg120 Try.sizeOf120 rfl arr_ld
          | exact g_retCA (encH (rawH s)) (by unfold headO; rw [if_neg hoff]) rfl rfl Try.isAgg120 Try.sizeOf120 rfl arr_ld
    · skip
      refine t_l rfl (l_alloc #[I 0, I 0, I 0, I 0] Try.zeroValue120) rfl ?_
      rintro _ _ ⟨b3, rfl, rfl⟩
      refine t_l rfl (l_call (Pre := []) Try.call102 rfl (ct_store_unfour ((s.take 9).drop 5) (by simp only [List.length_drop, List.length_take]; omega))) rfl ?_
      rintro _ _ ⟨rfl, rfl⟩
      refine t_l rfl (l_call (Pre := []) Try.call102 rfl (ct_store_unfour ((s.take 13).drop 9) (by simp only [List.length_drop, List.length_take]; omega))) rfl ?_
      rintro _ _ ⟨rfl, rfl⟩
      refine t_l rfl (l_call (Pre := []) Try.call102 rfl (ct_store_unfour ((s.take 17).drop 13) (by simp only [List.length_drop, List.length_take]; omega))) rfl ?_
      rintro _ _ ⟨rfl, rfl⟩
      refine t_v rfl (v_build rfl (bld120_0_1_2_3 _ rfl _ rfl _ rfl _ rfl)) rfl ?_
      refine t_l0 rfl (l_storeA (cs := #[I 0, I 0, I 0, I 0]) (vs := encH (rawH s)) (encH (rawH s)).toArray Try.sizeOf120 rfl rfl rfl rfl (by decide) (splice_all rfl)) ?_
      rintro _ _ rfl
      refine t_nil ?_
      refine g_seq ?_
      refine g_seq ?_
      refine g_reg ?_
      refine g_v (v_move rfl) rfl ?_
      refine g_v (v_indexStr (r := sk s 0) 0 Try.underlying9 rfl rfl rfl (sk_at (by omega))) rfl ?_
      refine g_v (v_neq rfl rfl) rfl ?_
      refine g_v (v_move rfl) rfl ?_
      refine g_gv rfl rfl (fun hg => v_fieldAddr 1 Try.underlying120 rfl rfl Try.sizeOf3 (by decide) rfl) rfl rfl ?_
      refine g_gv rfl rfl (fun hg => v_load (v := I (rawH s).side) Try.isAgg3 rfl rfl) rfl rfl ?_
      refine g_gv rfl rfl (fun hg => v_gtr rfl rfl) rfl rfl ?_
      refine g_v (v_or rfl rfl) rfl ?_
      refine g_v (v_move rfl) rfl ?_
      refine g_gv rfl rfl (fun hg => v_fieldAddr 2 Try.underlying120 rfl rfl Try.sizeOf3 (by decide) rfl) rfl rfl ?_
      refine g_gv rfl rfl (fun hg => v_load (v := I (rawH s).size) Try.isAgg3 rfl rfl) rfl rfl ?_
      refine g_gv rfl rfl (fun hg => v_gtr rfl rfl) rfl rfl ?_
      refine g_v (v_or rfl rfl) rfl ?_
      refine g_v (v_move rfl) rfl ?_
      refine g_gv rfl rfl (fun hg => v_fieldAddr 3 Try.underlying120 rfl rfl Try.sizeOf3 (by decide) rfl) rfl rfl ?_
      refine g_gv rfl rfl (fun hg => v_load (v := I (rawH s).first) Try.isAgg3 rfl rfl) rfl rfl ?_
      refine g_gv rfl rfl (fun hg => v_lss rfl rfl) rfl rfl ?_
      refine g_v (v_or rfl rfl) rfl ?_
      refine g_nil ?_
      refine g_cond rfl (fun h34 => ?_) (fun h34 => ?_)
      · have hoff : offH s := by
          unfold offH
          simp at h34
          rcases h34 with ((h | h) | h) | h
          · exact .inl (fun e => h (by rw [e]; rfl))
          · exact .inr (.inl (by omega))
          · exact .inr (.inr (.inl (by omega)))
          · exact .inr (.inr (.inr (by omega)))
        refine g_seq ?_
        refine g_reg ?_
        refine g_v (v_build rfl (bld120_ )) rfl ?_
        refine g_l0 (l_storeA (cs := #[I 0, I 0, I 0, I 0]) (vs := encH HdM.no) (encH HdM.no).toArray Try.sizeOf120 rfl rfl rfl rfl (by decide) (splice_all rfl)) ?_
        rintro _ _ rfl
        refine g_nil ?_
        first
        | exact g_retCA (encH HdM.no) (by unfold headO; rw [if_pos hoff]) rfl rfl Try.isAgg120 Try.sizeOf120 rfl arr_ld
        | exact g_retCA (encH (rawH s)) (by unfold headO; rw [if_neg hoff]) rfl rfl Try.isAgg120 Try.sizeOf120 rfl arr_ld
      · have hoff : ¬ offH s := by
          unfold offH
          simp at h34
          rintro (h | h | h | h)
          · exact h (UInt8.toNat_inj.1 (by rw [show (72 : UInt8).toNat = 72 from rfl]; omega))
          · omega
          · omega
          · omega
        refine g_skip ?_
        refine g_seq ?_
        refine g_reg ?_
        refine g_v (v_loadA (vs := encH (rawH s)) Try.isAgg120 Try.sizeOf120 rfl rfl arr_ld) rfl ?_
        refine g_l0 (l_storeA (cs := #[I 0, I 0, I 0, I 0]) (vs := encH (rawH s)) (encH (rawH s)).toArray Try.sizeOf120 rfl rfl rfl rfl (by decide) (splice_all rfl)) ?_
        rintro _ _ rfl
        refine g_nil ?_
        first
        | exact g_retCA (encH HdM.no) (by unfold headO; rw [if_pos hoff]) rfl rfl Try.isAgg120 Try.sizeOf120 rfl arr_ld
        | exact g_retCA (encH (rawH s)) (by unfold headO; rw [if_neg hoff]) rfl rfl Try.isAgg120 Try.sizeOf120 rfl arr_ld
  · skip
    refine t_l rfl (l_alloc #[I 0, I 0, I 0, I 0] Try.zeroValue120) rfl ?_
    rintro _ _ ⟨b3, rfl, rfl⟩
    refine t_l rfl (l_call (Pre := []) Try.call102 rfl (ct_store_unfour ((s.take 5).drop 1) (by simp only [List.length_drop, List.length_take]; omega))) rfl ?_
    rintro _ _ ⟨rfl, rfl⟩
    refine t_l rfl (l_call (Pre := []) Try.call102 rfl (ct_store_unfour ((s.take 9).drop 5) (by simp only [List.length_drop, List.length_take]; omega))) rfl ?_
    rintro _ _ ⟨rfl, rfl⟩
    refine t_l rfl (l_call (Pre := []) Try.call102 rfl (ct_store_unfour ((s.take 13).drop 9) (by simp only [List.length_drop, List.length_take]; omega))) rfl ?_
    rintro _ _ ⟨rfl, rfl⟩
    refine t_l rfl (l_call (Pre := []) Try.call102 rfl (ct_store_unfour ((s.take 17).drop 13) (by simp only [List.length_drop, List.length_take]; omega))) rfl ?_
    rintro _ _ ⟨rfl, rfl⟩
    refine t_v rfl (v_build rfl (bld120_0_1_2_3 _ rfl _ rfl _ rfl _ rfl)) rfl ?_
    refine t_l0 rfl (l_storeA (cs := #[I 0, I 0, I 0, I 0]) (vs := encH (rawH s)) (encH (rawH s)).toArray Try.sizeOf120 rfl rfl rfl rfl (by decide) (splice_all rfl)) ?_
    rintro _ _ rfl
    refine t_nil ?_
    refine g_seq ?_
    refine g_seq ?_
    refine g_reg ?_
    refine g_v (v_move rfl) rfl ?_
    refine g_v (v_indexStr (r := sk s 0) 0 Try.underlying9 rfl rfl rfl (sk_at (by omega))) rfl ?_
    refine g_v (v_neq rfl rfl) rfl ?_
    refine g_v (v_move rfl) rfl ?_
    refine g_gv rfl rfl (fun hg => v_fieldAddr 1 Try.underlying120 rfl rfl Try.sizeOf3 (by decide) rfl) rfl rfl ?_
    refine g_gv rfl rfl (fun hg => v_load (v := I (rawH s).side) Try.isAgg3 rfl rfl) rfl rfl ?_
    refine g_gv rfl rfl (fun hg => v_gtr rfl rfl) rfl rfl ?_
    refine g_v (v_or rfl rfl) rfl ?_
    refine g_v (v_move rfl) rfl ?_
    refine g_gv rfl rfl (fun hg => v_fieldAddr 2 Try.underlying120 rfl rfl Try.sizeOf3 (by decide) rfl) rfl rfl ?_
    refine g_gv rfl rfl (fun hg => v_load (v := I (rawH s).size) Try.isAgg3 rfl rfl) rfl rfl ?_
    refine g_gv rfl rfl (fun hg => v_gtr rfl rfl) rfl rfl ?_
    refine g_v (v_or rfl rfl) rfl ?_
    refine g_v (v_move rfl) rfl ?_
    refine g_gv rfl rfl (fun hg => v_fieldAddr 3 Try.underlying120 rfl rfl Try.sizeOf3 (by decide) rfl) rfl rfl ?_
    refine g_gv rfl rfl (fun hg => v_load (v := I (rawH s).first) Try.isAgg3 rfl rfl) rfl rfl ?_
    refine g_gv rfl rfl (fun hg => v_lss rfl rfl) rfl rfl ?_
    refine g_v (v_or rfl rfl) rfl ?_
    refine g_nil ?_
    refine g_cond rfl (fun h34 => ?_) (fun h34 => ?_)
    · have hoff : offH s := by
        unfold offH
        simp at h34
        rcases h34 with ((h | h) | h) | h
        · exact .inl (fun e => h (by rw [e]; rfl))
        · exact .inr (.inl (by omega))
        · exact .inr (.inr (.inl (by omega)))
        · exact .inr (.inr (.inr (by omega)))
      refine g_seq ?_
      refine g_reg ?_
      refine g_v (v_build rfl (bld120_ )) rfl ?_
      refine g_l0 (l_storeA (cs := #[I 0, I 0, I 0, I 0]) (vs := encH HdM.no) (encH HdM.no).toArray Try.sizeOf120 rfl rfl rfl rfl (by decide) (splice_all rfl)) ?_
      rintro _ _ rfl
      refine g_nil ?_
      first
      | exact g_retCA (encH HdM.no) (by unfold headO; rw [if_pos hoff]) rfl rfl Try.isAgg120 Try.sizeOf120 rfl arr_ld
      | exact g_retCA (encH (rawH s)) (by unfold headO; rw [if_neg hoff]) rfl rfl Try.isAgg120 Try.sizeOf120 rfl arr_ld
    · have hoff : ¬ offH s := by
        unfold offH
        simp at h34
        rintro (h | h | h | h)
        · exact h (UInt8.toNat_inj.1 (by rw [show (72 : UInt8).toNat = 72 from rfl]; omega))
        · omega
        · omega
        · omega
      refine g_skip ?_
      refine g_seq ?_
      refine g_reg ?_
      refine g_v (v_loadA (vs := encH (rawH s)) Try.isAgg120 Try.sizeOf120 rfl rfl arr_ld) rfl ?_
      refine g_l0 (l_storeA (cs := #[I 0, I 0, I 0, I 0]) (vs := encH (rawH s)) (encH (rawH s)).toArray Try.sizeOf120 rfl rfl rfl rfl (by decide) (splice_all rfl)) ?_
      rintro _ _ rfl
      refine g_nil ?_
      first
      | exact g_retCA (encH HdM.no) (by unfold headO; rw [if_pos hoff]) rfl rfl Try.isAgg120 Try.sizeOf120 rfl arr_ld
      | exact g_retCA (encH (rawH s)) (by unfold headO; rw [if_neg hoff]) rfl rfl Try.isAgg120 Try.sizeOf120 rfl arr_ld

-- (*counterfoil/store.Store).Room is not in this seat
theorem ct_store_Rows (bs bd : Nat) (h : HdM) (bl : Nat) (s : Option Addr) (cap : Nat) (rows : List ChangeM) (hr : rows.length ≤ 400) (F : List HProp) : Ct Try.prog 38 [ptr bs 0] ([pt bs (.cells (stC bd h bl s (rows.length) cap) 123 (0, 0)), roL 3 s (chR rows)] ++ F) (RSl 111 3 rows.length (chR rows) (pt bs (.cells (stC bd h bl s (rows.length) cap) 123 (0, 0)) :: roL 3 s (chR rows) :: F)) := by
  show Ct Try.prog 38 [ptr bs 0] (pt bs (.cells (stC bd h bl s (rows.length) cap) 123 (0, 0)) :: roL 3 s (chR rows) :: F) _
  refine Ct.of Try.func38 rfl 8 Try.ntmps38 (by simp) fun w0 => ?_
  refine g_seq ?_
  refine g_reg ?_
  refine g_v (v_assign rfl) rfl ?_
  refine g_nil ?_
  refine g_seq ?_
  refine g_reg ?_
  refine g_v (v_move rfl) rfl ?_
  refine g_v (v_nilCheck rfl) rfl ?_
  refine g_v (v_fieldAddr 6 Try.underlying123 rfl rfl Try.sizeOf49 (by decide) rfl) rfl ?_
  refine g_v (v_load (v := sl s rows.length cap) Try.isAgg49 rfl rfl) rfl ?_
  refine g_l (l_call (Pre := [roL 3 s (chR rows)]) Try.call72 rfl (ct_Clone_change rows s cap (by omega))) rfl ?_
  rintro _ _ ⟨s7, c7, rfl, rfl⟩
  refine g_v (v_assign rfl) rfl ?_
  refine g_nil ?_
  exact g_retSl rfl rfl rfl rfl

end Go.Proofs.Ythdjckbjjfiopac
