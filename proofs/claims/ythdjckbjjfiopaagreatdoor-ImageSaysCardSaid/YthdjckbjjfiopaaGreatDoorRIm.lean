/- Walks through the reference's rows: decimals, Rows, ChangesOf. No condition. -/
import Derived.Test.YthdjckbjjfiopaaGreatDoorImC
import Derived.Test.YthdjckbjjfiopaaGreatDoorIm
import Derived.Test.YthdjckbjjfiopaaGreatDoorImS
import Derived.Test.YthdjckbjjfiopaaGreatDoorRVa2
import Derived.Test.YthdjckbjjfiopaaGreatDoorAsIx
namespace Go.Proofs.YthdjckbjjfiopaaGreatDoor
open Go.Sl Go.Proofs
set_option linter.unusedVariables false
set_option linter.unusedSimpArgs false
theorem rep48 : ∀ j : Nat, Lib.repeatL [48] j = List.replicate j 48
  | 0 => rfl
  | j + 1 => by rw [Lib.repeatL, rep48 j]; rfl
def zer (j : Nat) (s : Bytes) : Bytes := List.replicate j 48 ++ s
theorem zer_len (j : Nat) (s : Bytes) : (zer j s).length = j + s.length := by simp [zer]
theorem thr_zer (n : Int) : thr n = zer (3 - (Lib.itoa n).length) (Lib.itoa n) := by unfold thr zer; rw [rep48]
theorem bldC2r (k : Bytes) (w : World) : (Instr.build 49 #[(0, Str k), (2, Bo true)]).run Tryz.prog w = .ok (.agg (encC ⟨k, [], true⟩).toArray) w := by
  simp [Instr.build, Tryz.zeroValue49, Tryz.runUnderlying49, Tryz.sizeOf4, Tryz.sizeOf9, Instr.fill, cells_agg, encC, show (Str k).cells = #[Str k] from rfl, show (Bo true).cells = #[Bo true] from rfl]
theorem dec_len : ∀ {u : Nat}, u < 10000 → (Lib.decDigits u).length ≤ 4 := fun {u} hu => by
  have := thr_len4 (n := u / 10) (by omega)
  by_cases h : u < 10
  · rw [dec1 h]; simp
  · rw [dec_step h]
    by_cases h2 : u / 10 < 10
    · rw [dec1 h2]; simp
    · rw [dec_step h2]
      by_cases h3 : u / 10 / 10 < 10
      · rw [dec1 h3]; simp
      · rw [dec_step h3, dec1 (by omega)]; simp
theorem xS_Bg {S : SI} {q : Int} (h0 : 0 ≤ q) : (xS S).B q.toNat = gB S.B q := by
  show (S.B (q.toNat : Int)).getD ([], 0) = (S.B q).getD ([], 0)
  rw [show ((q.toNat : Nat) : Int) = q by omega]
theorem xSk {S : SI} {L : List Pt} {n : Int} (h : Sm S L n) (k : Nat) : 0 ≤ ((xS S).B k).2 := by
  have e := xS_Bg (S := S) (q := (k : Int)) (by omega)
  rw [show ((k : Int)).toNat = k by omega] at e
  rw [e]
  exact (gB_sm h k).1.1
theorem drop_cons' {α : Type} {l : List α} {k : Nat} {x : α} (h : l[k]? = some x) : l.drop k = x :: l.drop (k + 1) := by
  obtain ⟨hk, e⟩ := List.getElem?_eq_some_iff.1 h
  rw [← e]; exact List.drop_eq_getElem_cons hk

theorem ct_R_Dec1 (n : Nat) (hn : n < 10) (F : List HProp) : Ct Tryz.prog 65 [I n] ([] ++ F) (R1 (Str (Lib.decDigits n)) F) := by
  show Ct Tryz.prog 65 [I n] (F) _
  refine Ct.of Tryz.func65 rfl 26 Tryz.ntmps65 (by simp) fun w0 => ?_
  refine g_seq ?_
  refine g_reg ?_
  refine g_v (v_assign rfl) rfl ?_
  refine g_nil ?_
  refine g_seq ?_
  refine g_seq ?_
  refine g_reg ?_
  refine g_v (v_move rfl) rfl ?_
  refine g_v (v_lss rfl rfl) rfl ?_
  refine g_nil ?_
  refine g_cond rfl (fun h4 => ?_) (fun h4 => ?_)
  · exfalso
    have := of_decide_eq_true h4
    omega
  · skip
    refine g_skip ?_
    refine g_seq ?_
    refine g_seq ?_
    refine g_reg ?_
    refine g_v (v_move rfl) rfl ?_
    refine g_v (v_lss rfl rfl) rfl ?_
    refine g_nil ?_
    refine g_cond rfl (fun h10 => ?_) (fun h10 => ?_)
    · have h10' : n < 10 := by have := of_decide_eq_true h10; omega
      rw [dec1 h10']
      refine g_seq ?_
      refine g_reg ?_
      refine g_v (v_move rfl) rfl ?_
      refine g_v (v_add rfl rfl (w64 (by omega))) rfl ?_
      refine g_v (v_conv (r := ((dgt (n)).toNat : Int)) Tryz.underlying3 Tryz.underlying5 rfl (by rw [dgt_nat (by omega), w8 (by omega)]; omega)) rfl ?_
      refine g_l (l_buildSlice (bytesR [dgt (n)]) Tryz.underlying136 Tryz.sizeOf5 Tryz.zeroValue5 rfl rfl rfl (by simp [bytesR]) (by decide) (by decide)) rfl ?_
      rintro _ _ ⟨b14, rfl, rfl⟩
      refine g_v (v_bytesStr (l := [dgt (n)]) Tryz.underlying136 Tryz.underlying5 Tryz.underlying9 rfl rfl rfl) rfl ?_
      refine g_v (v_assign rfl) rfl ?_
      refine g_nil ?_
      refine g_ret1 rfl rfl ?_
      exact rfl
    · exfalso
      have := of_decide_eq_false h10
      omega

theorem ct_R_Dec2 (n : Nat) (hn : n < 100) (F : List HProp) : Ct Tryz.prog 65 [I n] ([] ++ F) (R1 (Str (Lib.decDigits n)) F) := by
  show Ct Tryz.prog 65 [I n] (F) _
  refine Ct.of Tryz.func65 rfl 26 Tryz.ntmps65 (by simp) fun w0 => ?_
  refine g_seq ?_
  refine g_reg ?_
  refine g_v (v_assign rfl) rfl ?_
  refine g_nil ?_
  refine g_seq ?_
  refine g_seq ?_
  refine g_reg ?_
  refine g_v (v_move rfl) rfl ?_
  refine g_v (v_lss rfl rfl) rfl ?_
  refine g_nil ?_
  refine g_cond rfl (fun h4 => ?_) (fun h4 => ?_)
  · exfalso
    have := of_decide_eq_true h4
    omega
  · skip
    refine g_skip ?_
    refine g_seq ?_
    refine g_seq ?_
    refine g_reg ?_
    refine g_v (v_move rfl) rfl ?_
    refine g_v (v_lss rfl rfl) rfl ?_
    refine g_nil ?_
    refine g_cond rfl (fun h10 => ?_) (fun h10 => ?_)
    · have h10' : n < 10 := by have := of_decide_eq_true h10; omega
      rw [dec1 h10']
      refine g_seq ?_
      refine g_reg ?_
      refine g_v (v_move rfl) rfl ?_
      refine g_v (v_add rfl rfl (w64 (by omega))) rfl ?_
      refine g_v (v_conv (r := ((dgt (n)).toNat : Int)) Tryz.underlying3 Tryz.underlying5 rfl (by rw [dgt_nat (by omega), w8 (by omega)]; omega)) rfl ?_
      refine g_l (l_buildSlice (bytesR [dgt (n)]) Tryz.underlying136 Tryz.sizeOf5 Tryz.zeroValue5 rfl rfl rfl (by simp [bytesR]) (by decide) (by decide)) rfl ?_
      rintro _ _ ⟨b14, rfl, rfl⟩
      refine g_v (v_bytesStr (l := [dgt (n)]) Tryz.underlying136 Tryz.underlying5 Tryz.underlying9 rfl rfl rfl) rfl ?_
      refine g_v (v_assign rfl) rfl ?_
      refine g_nil ?_
      refine g_ret1 rfl rfl ?_
      exact rfl
    · skip
      refine g_skip ?_
      refine g_seq ?_
      refine g_drawT (Lf := []) (.q 0 (.q 1 (.q 3 (.q 4 (.q 5 (.q 6 (.alt (.l 2 (.l 7 (.c (.q 8 (.q 9 (.q 10 (.nil))))))) (.l 7 (.c (.q 8 (.l 2 (.q 9 (.q 10 (.nil)))))))))))))) (by kernel_rfl) (by kernel_rfl) (by kernel_rfl) ?_
      refine t_v rfl (v_move rfl) rfl ?_
      refine t_v rfl (v_quo (r := ((n / 10 : Nat) : Int)) rfl rfl (by decide) (by rw [show (n : Int).tdiv 10 = ((n / 10 : Nat) : Int) from (Int.ofNat_tdiv n 10)]; exact w64 (by omega))) rfl ?_
      refine t_v rfl (v_move rfl) rfl ?_
      refine t_v rfl (v_rem (r := ((n % 10 : Nat) : Int)) rfl rfl (by decide) (Int.ofNat_tmod n 10)) rfl ?_
      refine t_v rfl (v_add rfl rfl (w64 (by omega))) rfl ?_
      refine t_v rfl (v_conv (r := ((dgt (n % 10)).toNat : Int)) Tryz.underlying3 Tryz.underlying5 rfl (by rw [dgt_nat (by omega), w8 (by omega)]; omega)) rfl ?_
      refine t_alt ?_ ?_
      · skip
        refine t_l rfl (l_call (Pre := []) Tryz.call65 rfl (ct_R_Dec1 (n / 10) (by omega))) rfl ?_
        rintro _ _ ⟨rfl, rfl⟩
        refine t_l rfl (l_buildSlice (bytesR [dgt (n % 10)]) Tryz.underlying136 Tryz.sizeOf5 Tryz.zeroValue5 rfl rfl rfl (by simp [bytesR]) (by decide) (by decide)) rfl ?_
        rintro _ _ ⟨b23, rfl, rfl⟩
        refine t_cls ([owL 5 1 (some ⟨b23, 0, none⟩) 1 (bytesR [dgt (n % 10)])]) ?_
        refine t_v rfl (v_bytesStr (l := [dgt (n % 10)]) Tryz.underlying136 Tryz.underlying5 Tryz.underlying9 rfl rfl rfl) rfl ?_
        refine t_v rfl (v_cat rfl rfl (by have := dec_len (u := n / 10) (by omega); simp; omega)) rfl ?_
        refine t_v rfl (v_assign rfl) rfl ?_
        refine t_nil ?_
        rw [dec_step (by have := of_decide_eq_false h10; omega)]
        exact g_ret1 rfl rfl rfl
      · skip
        refine t_l rfl (l_buildSlice (bytesR [dgt (n % 10)]) Tryz.underlying136 Tryz.sizeOf5 Tryz.zeroValue5 rfl rfl rfl (by simp [bytesR]) (by decide) (by decide)) rfl ?_
        rintro _ _ ⟨b23, rfl, rfl⟩
        refine t_cls ([owL 5 1 (some ⟨b23, 0, none⟩) 1 (bytesR [dgt (n % 10)])]) ?_
        refine t_v rfl (v_bytesStr (l := [dgt (n % 10)]) Tryz.underlying136 Tryz.underlying5 Tryz.underlying9 rfl rfl rfl) rfl ?_
        refine t_l rfl (l_call (Pre := []) Tryz.call65 rfl (ct_R_Dec1 (n / 10) (by omega))) rfl ?_
        rintro _ _ ⟨rfl, rfl⟩
        refine t_v rfl (v_cat rfl rfl (by have := dec_len (u := n / 10) (by omega); simp; omega)) rfl ?_
        refine t_v rfl (v_assign rfl) rfl ?_
        refine t_nil ?_
        rw [dec_step (by have := of_decide_eq_false h10; omega)]
        exact g_ret1 rfl rfl rfl

theorem ct_R_Dec3 (n : Nat) (hn : n < 1000) (F : List HProp) : Ct Tryz.prog 65 [I n] ([] ++ F) (R1 (Str (Lib.decDigits n)) F) := by
  show Ct Tryz.prog 65 [I n] (F) _
  refine Ct.of Tryz.func65 rfl 26 Tryz.ntmps65 (by simp) fun w0 => ?_
  refine g_seq ?_
  refine g_reg ?_
  refine g_v (v_assign rfl) rfl ?_
  refine g_nil ?_
  refine g_seq ?_
  refine g_seq ?_
  refine g_reg ?_
  refine g_v (v_move rfl) rfl ?_
  refine g_v (v_lss rfl rfl) rfl ?_
  refine g_nil ?_
  refine g_cond rfl (fun h4 => ?_) (fun h4 => ?_)
  · exfalso
    have := of_decide_eq_true h4
    omega
  · skip
    refine g_skip ?_
    refine g_seq ?_
    refine g_seq ?_
    refine g_reg ?_
    refine g_v (v_move rfl) rfl ?_
    refine g_v (v_lss rfl rfl) rfl ?_
    refine g_nil ?_
    refine g_cond rfl (fun h10 => ?_) (fun h10 => ?_)
    · have h10' : n < 10 := by have := of_decide_eq_true h10; omega
      rw [dec1 h10']
      refine g_seq ?_
      refine g_reg ?_
      refine g_v (v_move rfl) rfl ?_
      refine g_v (v_add rfl rfl (w64 (by omega))) rfl ?_
      refine g_v (v_conv (r := ((dgt (n)).toNat : Int)) Tryz.underlying3 Tryz.underlying5 rfl (by rw [dgt_nat (by omega), w8 (by omega)]; omega)) rfl ?_
      refine g_l (l_buildSlice (bytesR [dgt (n)]) Tryz.underlying136 Tryz.sizeOf5 Tryz.zeroValue5 rfl rfl rfl (by simp [bytesR]) (by decide) (by decide)) rfl ?_
      rintro _ _ ⟨b14, rfl, rfl⟩
      refine g_v (v_bytesStr (l := [dgt (n)]) Tryz.underlying136 Tryz.underlying5 Tryz.underlying9 rfl rfl rfl) rfl ?_
      refine g_v (v_assign rfl) rfl ?_
      refine g_nil ?_
      refine g_ret1 rfl rfl ?_
      exact rfl
    · skip
      refine g_skip ?_
      refine g_seq ?_
      refine g_drawT (Lf := []) (.q 0 (.q 1 (.q 3 (.q 4 (.q 5 (.q 6 (.alt (.l 2 (.l 7 (.c (.q 8 (.q 9 (.q 10 (.nil))))))) (.l 7 (.c (.q 8 (.l 2 (.q 9 (.q 10 (.nil)))))))))))))) (by kernel_rfl) (by kernel_rfl) (by kernel_rfl) ?_
      refine t_v rfl (v_move rfl) rfl ?_
      refine t_v rfl (v_quo (r := ((n / 10 : Nat) : Int)) rfl rfl (by decide) (by rw [show (n : Int).tdiv 10 = ((n / 10 : Nat) : Int) from (Int.ofNat_tdiv n 10)]; exact w64 (by omega))) rfl ?_
      refine t_v rfl (v_move rfl) rfl ?_
      refine t_v rfl (v_rem (r := ((n % 10 : Nat) : Int)) rfl rfl (by decide) (Int.ofNat_tmod n 10)) rfl ?_
      refine t_v rfl (v_add rfl rfl (w64 (by omega))) rfl ?_
      refine t_v rfl (v_conv (r := ((dgt (n % 10)).toNat : Int)) Tryz.underlying3 Tryz.underlying5 rfl (by rw [dgt_nat (by omega), w8 (by omega)]; omega)) rfl ?_
      refine t_alt ?_ ?_
      · skip
        refine t_l rfl (l_call (Pre := []) Tryz.call65 rfl (ct_R_Dec2 (n / 10) (by omega))) rfl ?_
        rintro _ _ ⟨rfl, rfl⟩
        refine t_l rfl (l_buildSlice (bytesR [dgt (n % 10)]) Tryz.underlying136 Tryz.sizeOf5 Tryz.zeroValue5 rfl rfl rfl (by simp [bytesR]) (by decide) (by decide)) rfl ?_
        rintro _ _ ⟨b23, rfl, rfl⟩
        refine t_cls ([owL 5 1 (some ⟨b23, 0, none⟩) 1 (bytesR [dgt (n % 10)])]) ?_
        refine t_v rfl (v_bytesStr (l := [dgt (n % 10)]) Tryz.underlying136 Tryz.underlying5 Tryz.underlying9 rfl rfl rfl) rfl ?_
        refine t_v rfl (v_cat rfl rfl (by have := dec_len (u := n / 10) (by omega); simp; omega)) rfl ?_
        refine t_v rfl (v_assign rfl) rfl ?_
        refine t_nil ?_
        rw [dec_step (by have := of_decide_eq_false h10; omega)]
        exact g_ret1 rfl rfl rfl
      · skip
        refine t_l rfl (l_buildSlice (bytesR [dgt (n % 10)]) Tryz.underlying136 Tryz.sizeOf5 Tryz.zeroValue5 rfl rfl rfl (by simp [bytesR]) (by decide) (by decide)) rfl ?_
        rintro _ _ ⟨b23, rfl, rfl⟩
        refine t_cls ([owL 5 1 (some ⟨b23, 0, none⟩) 1 (bytesR [dgt (n % 10)])]) ?_
        refine t_v rfl (v_bytesStr (l := [dgt (n % 10)]) Tryz.underlying136 Tryz.underlying5 Tryz.underlying9 rfl rfl rfl) rfl ?_
        refine t_l rfl (l_call (Pre := []) Tryz.call65 rfl (ct_R_Dec2 (n / 10) (by omega))) rfl ?_
        rintro _ _ ⟨rfl, rfl⟩
        refine t_v rfl (v_cat rfl rfl (by have := dec_len (u := n / 10) (by omega); simp; omega)) rfl ?_
        refine t_v rfl (v_assign rfl) rfl ?_
        refine t_nil ?_
        rw [dec_step (by have := of_decide_eq_false h10; omega)]
        exact g_ret1 rfl rfl rfl

theorem ct_R_Dec4 (n : Nat) (hn : n < 10000) (F : List HProp) : Ct Tryz.prog 65 [I n] ([] ++ F) (R1 (Str (Lib.decDigits n)) F) := by
  show Ct Tryz.prog 65 [I n] (F) _
  refine Ct.of Tryz.func65 rfl 26 Tryz.ntmps65 (by simp) fun w0 => ?_
  refine g_seq ?_
  refine g_reg ?_
  refine g_v (v_assign rfl) rfl ?_
  refine g_nil ?_
  refine g_seq ?_
  refine g_seq ?_
  refine g_reg ?_
  refine g_v (v_move rfl) rfl ?_
  refine g_v (v_lss rfl rfl) rfl ?_
  refine g_nil ?_
  refine g_cond rfl (fun h4 => ?_) (fun h4 => ?_)
  · exfalso
    have := of_decide_eq_true h4
    omega
  · skip
    refine g_skip ?_
    refine g_seq ?_
    refine g_seq ?_
    refine g_reg ?_
    refine g_v (v_move rfl) rfl ?_
    refine g_v (v_lss rfl rfl) rfl ?_
    refine g_nil ?_
    refine g_cond rfl (fun h10 => ?_) (fun h10 => ?_)
    · have h10' : n < 10 := by have := of_decide_eq_true h10; omega
      rw [dec1 h10']
      refine g_seq ?_
      refine g_reg ?_
      refine g_v (v_move rfl) rfl ?_
      refine g_v (v_add rfl rfl (w64 (by omega))) rfl ?_
      refine g_v (v_conv (r := ((dgt (n)).toNat : Int)) Tryz.underlying3 Tryz.underlying5 rfl (by rw [dgt_nat (by omega), w8 (by omega)]; omega)) rfl ?_
      refine g_l (l_buildSlice (bytesR [dgt (n)]) Tryz.underlying136 Tryz.sizeOf5 Tryz.zeroValue5 rfl rfl rfl (by simp [bytesR]) (by decide) (by decide)) rfl ?_
      rintro _ _ ⟨b14, rfl, rfl⟩
      refine g_v (v_bytesStr (l := [dgt (n)]) Tryz.underlying136 Tryz.underlying5 Tryz.underlying9 rfl rfl rfl) rfl ?_
      refine g_v (v_assign rfl) rfl ?_
      refine g_nil ?_
      refine g_ret1 rfl rfl ?_
      exact rfl
    · skip
      refine g_skip ?_
      refine g_seq ?_
      refine g_drawT (Lf := []) (.q 0 (.q 1 (.q 3 (.q 4 (.q 5 (.q 6 (.alt (.l 2 (.l 7 (.c (.q 8 (.q 9 (.q 10 (.nil))))))) (.l 7 (.c (.q 8 (.l 2 (.q 9 (.q 10 (.nil)))))))))))))) (by kernel_rfl) (by kernel_rfl) (by kernel_rfl) ?_
      refine t_v rfl (v_move rfl) rfl ?_
      refine t_v rfl (v_quo (r := ((n / 10 : Nat) : Int)) rfl rfl (by decide) (by rw [show (n : Int).tdiv 10 = ((n / 10 : Nat) : Int) from (Int.ofNat_tdiv n 10)]; exact w64 (by omega))) rfl ?_
      refine t_v rfl (v_move rfl) rfl ?_
      refine t_v rfl (v_rem (r := ((n % 10 : Nat) : Int)) rfl rfl (by decide) (Int.ofNat_tmod n 10)) rfl ?_
      refine t_v rfl (v_add rfl rfl (w64 (by omega))) rfl ?_
      refine t_v rfl (v_conv (r := ((dgt (n % 10)).toNat : Int)) Tryz.underlying3 Tryz.underlying5 rfl (by rw [dgt_nat (by omega), w8 (by omega)]; omega)) rfl ?_
      refine t_alt ?_ ?_
      · skip
        refine t_l rfl (l_call (Pre := []) Tryz.call65 rfl (ct_R_Dec3 (n / 10) (by omega))) rfl ?_
        rintro _ _ ⟨rfl, rfl⟩
        refine t_l rfl (l_buildSlice (bytesR [dgt (n % 10)]) Tryz.underlying136 Tryz.sizeOf5 Tryz.zeroValue5 rfl rfl rfl (by simp [bytesR]) (by decide) (by decide)) rfl ?_
        rintro _ _ ⟨b23, rfl, rfl⟩
        refine t_cls ([owL 5 1 (some ⟨b23, 0, none⟩) 1 (bytesR [dgt (n % 10)])]) ?_
        refine t_v rfl (v_bytesStr (l := [dgt (n % 10)]) Tryz.underlying136 Tryz.underlying5 Tryz.underlying9 rfl rfl rfl) rfl ?_
        refine t_v rfl (v_cat rfl rfl (by have := dec_len (u := n / 10) (by omega); simp; omega)) rfl ?_
        refine t_v rfl (v_assign rfl) rfl ?_
        refine t_nil ?_
        rw [dec_step (by have := of_decide_eq_false h10; omega)]
        exact g_ret1 rfl rfl rfl
      · skip
        refine t_l rfl (l_buildSlice (bytesR [dgt (n % 10)]) Tryz.underlying136 Tryz.sizeOf5 Tryz.zeroValue5 rfl rfl rfl (by simp [bytesR]) (by decide) (by decide)) rfl ?_
        rintro _ _ ⟨b23, rfl, rfl⟩
        refine t_cls ([owL 5 1 (some ⟨b23, 0, none⟩) 1 (bytesR [dgt (n % 10)])]) ?_
        refine t_v rfl (v_bytesStr (l := [dgt (n % 10)]) Tryz.underlying136 Tryz.underlying5 Tryz.underlying9 rfl rfl rfl) rfl ?_
        refine t_l rfl (l_call (Pre := []) Tryz.call65 rfl (ct_R_Dec3 (n / 10) (by omega))) rfl ?_
        rintro _ _ ⟨rfl, rfl⟩
        refine t_v rfl (v_cat rfl rfl (by have := dec_len (u := n / 10) (by omega); simp; omega)) rfl ?_
        refine t_v rfl (v_assign rfl) rfl ?_
        refine t_nil ?_
        rw [dec_step (by have := of_decide_eq_false h10; omega)]
        exact g_ret1 rfl rfl rfl

theorem ct_R_three (n : Int) (hn : 0 ≤ n ∧ n ≤ 1000) (F : List HProp) : Ct Tryz.prog 34 [I n] ([] ++ F) (R1 (Str (thr n)) F) := by
  show Ct Tryz.prog 34 [I n] (F) _
  obtain ⟨u, rfl⟩ : ∃ u : Nat, n = u := ⟨n.toNat, by omega⟩
  have hu : (Lib.decDigits u).length ≤ 4 := dec_len (by omega)
  rw [thr_zer, itoa_nat]
  refine Ct.of Tryz.func34 rfl 12 Tryz.ntmps34 (by simp) fun w0 => ?_
  refine g_seq ?_
  refine g_reg ?_
  refine g_v (v_assign rfl) rfl ?_
  refine g_nil ?_
  refine g_seq ?_
  refine g_reg ?_
  refine g_v (v_move rfl) rfl ?_
  refine g_l (l_call (Pre := []) Tryz.call65 rfl (ct_R_Dec4 u (by omega))) rfl ?_
  rintro _ L1 ⟨rfl, h1⟩
  obtain rfl : F = L1 := h1.symm
  refine g_v (v_assign rfl) rfl ?_
  refine g_nil ?_
  refine g_seq ?_
  refine g_block ?_
  refine g_loop (α := Nat) (fun j => j ≤ 3 - (Lib.decDigits u).length) (fun j => U [(3, Str (zer j (Lib.decDigits u)))]) (fun _ => F) (fun j => 3 - j) 0 (by omega) [3] rfl rfl ?_
  intro j hj
  refine g_seq ?_
  refine g_seq ?_
  refine g_reg ?_
  refine g_v (v_move rfl) rfl ?_
  refine g_v (v_slen Tryz.underlying9 rfl) rfl ?_
  refine g_v (v_lss rfl rfl) rfl ?_
  refine g_nil ?_
  refine g_cond rfl (fun h8 => ?_) (fun h8 => ?_)
  · have h8' := of_decide_eq_true h8
    rw [zer_len] at h8'
    have hj3 : j < 3 - (Lib.decDigits u).length := by omega
    refine g_skip ?_
    refine g_block ?_
    refine g_reg ?_
    refine g_v (v_move rfl) rfl ?_
    refine g_v (v_cat rfl rfl (by rw [zer_len]; simp; omega)) rfl ?_
    refine g_v (v_assign rfl) rfl ?_
    refine g_nil ?_
    refine g_blk ?_
    exact g_again (j + 1) (by omega) (by omega) [3] rfl rfl
  · have h8' := of_decide_eq_false h8
    rw [zer_len] at h8'
    obtain rfl : j = 3 - (Lib.decDigits u).length := by omega
    refine g_exit rfl ?_
    refine g_seq ?_
    refine g_reg ?_
    refine g_v (v_move rfl) rfl ?_
    refine g_v (v_assign rfl) rfl ?_
    refine g_nil ?_
    refine g_ret1 rfl rfl ?_
    exact rfl

theorem ct_R_Rows (b : Nat) (S : SI) (L : List Pt) (n : Int) (h : Sm S L n) (F : List HProp) : Ct Tryz.prog 16 [ptr b 0] ([rvl b S L n] ++ F) (RSl 49 3 (rowsF S L n).length (chR (rowsF S L n)) (rvl b S L n :: F)) := by
  show Ct Tryz.prog 16 [ptr b 0] (rvl b S L n :: F) _
  have hok := h.ok
  have hll := h.len
  have hib := ids_len_le 40 S.B
  have hin := ids_len_le 24 S.N
  refine Ct.of Tryz.func16 rfl 160 Tryz.ntmps16 (by simp) fun w0 => ?_
  refine g_openRV b S L n ?_
  intro x s c
  refine g_nilown 49 3 (chR ((bRows 40 S.B).take 0)) rfl ?_
  refine g_seq ?_
  refine g_reg ?_
  refine g_v (v_assign rfl) rfl ?_
  refine g_nil ?_
  refine g_seq ?_
  refine g_reg ?_
  refine g_v (v_assign rfl) rfl ?_
  refine g_nil ?_
  refine g_seq ?_
  refine g_reg ?_
  refine g_v (v_move rfl) rfl ?_
  refine g_v (v_nilCheck rfl) rfl ?_
  refine g_v (v_fieldAddr 0 Tryz.underlying70 rfl rfl Tryz.sizeOf59 (by decide) rfl) rfl ?_
  refine g_v (v_load (v := ptr x 0) Tryz.isAgg59 rfl rfl) rfl ?_
  refine g_l (l_call (Pre := [ixr x (xS S)]) Tryz.call33 rfl (ct_R_Blocks x (xS S) (fun k _ => xSk h k))) rfl ?_
  rintro _ _ ⟨s15, c15, rfl, rfl⟩
  rw [bt_xS hok]
  refine g_freeze s15 ?_
  refine g_v (v_assign rfl) rfl ?_
  refine g_nil ?_
  refine g_seq ?_
  refine g_seq ?_
  refine g_reg ?_
  refine g_v (v_assign rfl) rfl ?_
  refine g_nil ?_
  refine g_block ?_
  refine g_loop (α := Nat × Option Addr × Nat) (fun z => z.1 ≤ (ids 40 S.B).length) (fun z => U [(0, ptr b 0), (3, sl z.2.1 z.1 z.2.2), (4, sl s15 (ids 40 S.B).length c15), (5, I z.1)]) (fun z => owL 49 3 z.2.1 z.2.2 (chR ((bRows 40 S.B).take z.1)) :: roL 1 s15 (intR (ids 40 S.B)) :: pt b (.cells #[ptr x 0, sl s L.length c, I n] 70 (0, 0)) :: ixr x (xS S) :: owL 73 4 s c (ptR (L)) :: F) (fun z => (ids 40 S.B).length - z.1) (0, none, 0) (by simp) [0, 3, 4, 5] rfl rfl ?_
  rintro ⟨k, s3, c3⟩ hk
  simp only [] at hk ⊢
  refine g_seq ?_
  refine g_seq ?_
  refine g_reg ?_
  refine g_v (v_move rfl) rfl ?_
  refine g_v (v_move rfl) rfl ?_
  refine g_v (v_len Tryz.underlying82 rfl) rfl ?_
  refine g_v (v_lss rfl rfl) rfl ?_
  refine g_nil ?_
  refine g_cond rfl (fun h19 => ?_) (fun h19 => ?_)
  · simp at h19
    have hki : k < (ids 40 S.B).length := by omega
    obtain ⟨q, hq⟩ : ∃ q, (ids 40 S.B)[k]? = some q := ⟨_, List.getElem?_eq_getElem hki⟩
    obtain ⟨hqr, hqs⟩ := mem_ids.1 (List.mem_of_getElem? hq)
    have hgb := gB_sm h q
    refine g_skip ?_
    refine g_seq ?_
    refine g_block ?_
    refine g_draw (Lf := [pt b (.cells #[ptr x 0, sl s L.length c, I n] 70 (0, 0)), ixr x (xS S), roL 1 s15 (intR (ids 40 S.B))]) [(0, false), (1, false), (2, false), (3, false), (4, false), (7, false), (8, false), (9, false), (10, false), (11, false), (12, false), (13, false), (14, false), (15, false), (16, false), (17, false), (18, false), (19, false), (21, false), (22, false), (23, false), (24, false), (25, false), (26, false), (27, false), (28, false), (29, false), (30, false), (31, false), (32, false), (33, false), (5, true), (6, false), (20, true), (34, false), (35, false), (36, true), (37, true), (38, false)] (by kernel_rfl) (by kernel_rfl) rfl (by kernel_rfl) ?_
    refine d_v rfl (v_move rfl) rfl ?_
    refine d_v rfl (v_move rfl) rfl ?_
    refine d_v rfl (v_move rfl) rfl ?_
    refine d_v rfl (v_idxS k Tryz.underlying82 Tryz.sizeOf3 rfl rfl rfl hki (by rw [intR_len]; exact hki)) rfl ?_
    refine d_v rfl (v_loadS0 (v := I q) Tryz.isAgg3 rfl (intR_at hq) rfl) rfl ?_
    refine d_v rfl (v_move rfl) rfl ?_
    refine d_v rfl (v_nilCheck rfl) rfl ?_
    refine d_v rfl (v_fieldAddr 0 Tryz.underlying70 rfl rfl Tryz.sizeOf59 (by decide) rfl) rfl ?_
    refine d_v rfl (v_load (v := ptr x 0) Tryz.isAgg59 rfl rfl) rfl ?_
    refine d_v rfl (v_move rfl) rfl ?_
    refine d_v rfl (v_move rfl) rfl ?_
    refine d_v rfl (v_idxS k Tryz.underlying82 Tryz.sizeOf3 rfl rfl rfl hki (by rw [intR_len]; exact hki)) rfl ?_
    refine d_v rfl (v_loadS0 (v := I q) Tryz.isAgg3 rfl (intR_at hq) rfl) rfl ?_
    refine d_v rfl (v_nilCheck rfl) rfl ?_
    refine d_v rfl (v_fieldAddr 0 Tryz.underlying68 rfl rfl Tryz.sizeOf62 (by decide) rfl) rfl ?_
    refine d_v rfl (v_idxA q.toNat Tryz.underlying62 Tryz.sizeOf61 rfl rfl (by omega) (by omega)) rfl ?_
    refine d_v rfl (v_fieldAddr 1 Tryz.underlying61 rfl rfl Tryz.sizeOf3 (by decide) rfl) rfl ?_
    refine d_v rfl (v_load (v := I (gB S.B q).2) Tryz.isAgg3 rfl (by rw [← xS_Bg (by omega)]; exact xC_refs (by omega) (by omega))) rfl ?_
    refine d_v rfl (v_move rfl) rfl ?_
    refine d_v rfl (v_nilCheck rfl) rfl ?_
    refine d_v rfl (v_fieldAddr 0 Tryz.underlying70 rfl rfl Tryz.sizeOf59 (by decide) rfl) rfl ?_
    refine d_v rfl (v_load (v := ptr x 0) Tryz.isAgg59 rfl rfl) rfl ?_
    refine d_v rfl (v_move rfl) rfl ?_
    refine d_v rfl (v_move rfl) rfl ?_
    refine d_v rfl (v_idxS k Tryz.underlying82 Tryz.sizeOf3 rfl rfl rfl hki (by rw [intR_len]; exact hki)) rfl ?_
    refine d_v rfl (v_loadS0 (v := I q) Tryz.isAgg3 rfl (intR_at hq) rfl) rfl ?_
    refine d_v rfl (v_nilCheck rfl) rfl ?_
    refine d_v rfl (v_fieldAddr 0 Tryz.underlying68 rfl rfl Tryz.sizeOf62 (by decide) rfl) rfl ?_
    refine d_v rfl (v_idxA q.toNat Tryz.underlying62 Tryz.sizeOf61 rfl rfl (by omega) (by omega)) rfl ?_
    refine d_v rfl (v_fieldAddr 0 Tryz.underlying61 rfl rfl Tryz.sizeOf9 (by decide) rfl) rfl ?_
    refine d_v rfl (v_load (v := Str (gB S.B q).1) Tryz.isAgg9 rfl (by rw [← xS_Bg (by omega)]; exact xC_data (by omega) (by omega))) rfl ?_
    refine d_l rfl (l_call (Pre := []) Tryz.call34 rfl (ct_R_three (q) (by omega))) rfl ?_
    rintro _ _ ⟨rfl, rfl⟩
    refine d_v rfl (v_cat rfl rfl (by have := thr_len_le (n := q) (by omega); simp; omega)) rfl ?_
    refine d_l rfl (l_call (Pre := []) Tryz.call34 rfl (ct_R_three ((gB S.B q).2) (by omega))) rfl ?_
    rintro _ _ ⟨rfl, rfl⟩
    refine d_v rfl (v_cat rfl rfl (by have := thr_len_le (n := (gB S.B q).2) (by omega); omega)) rfl ?_
    refine d_v rfl (v_build rfl (bld49_0_1 _ rfl _ rfl)) rfl ?_
    refine d_l rfl (l_buildSlice [encC (bRow q (gB S.B q))] Tryz.underlying23 Tryz.sizeOf49 Tryz.zeroValue49 rfl rfl rfl (by intro r hr; simp at hr; subst hr; rfl) (by decide) (by decide)) rfl ?_
    rintro _ _ ⟨b58, rfl, rfl⟩
    refine d_l rfl (l_append Tryz.underlying23 Tryz.sizeOf49 Tryz.zeroValue49 rfl Tryz.typeInfo49 (by decide) rfl rfl (by rw [chR_len]; simp [bRows, nRows]; omega) rfl (by intro r hr; simp at hr; subst hr; rfl) (by intro r hr; simp at hr; subst hr; rfl) ⟨by omega, by decide, by decide⟩) rfl ?_
    rintro _ _ ⟨s59, c59, rfl, rfl⟩
    rw [chR_snoc, tk_snoc (bRows_at hq)]
    refine d_v rfl (v_assign rfl) rfl ?_
    refine d_nil ?_
    refine g_blk ?_
    refine g_reg ?_
    refine g_v (v_move rfl) rfl ?_
    refine g_v (v_add rfl rfl (w64 (by omega))) rfl ?_
    refine g_v (v_assign rfl) rfl ?_
    refine g_nil ?_
    exact g_again (k + 1, s59, c59) (by simp only []; omega) (by simp only []; omega) [0, 3, 4, 5] rfl rfl
  · simp at h19
    obtain rfl : k = (ids 40 S.B).length := by omega
    rw [List.take_of_length_le (by rw [bRows_len]; omega)]
    refine g_exit rfl ?_
    refine g_seq ?_
    refine g_reg ?_
    refine g_v (v_move rfl) rfl ?_
    refine g_v (v_nilCheck rfl) rfl ?_
    refine g_v (v_fieldAddr 0 Tryz.underlying70 rfl rfl Tryz.sizeOf59 (by decide) rfl) rfl ?_
    refine g_v (v_load (v := ptr x 0) Tryz.isAgg59 rfl rfl) rfl ?_
    refine g_l (l_call (Pre := [ixr x (xS S)]) Tryz.call35 rfl (ct_R_Nodes x S 999 hok)) rfl ?_
    rintro _ _ ⟨s64, c64, rfl, rfl⟩
    refine g_freeze s64 ?_
    refine g_owEq s3 (chR (bRows 40 S.B ++ (nRows 24 S.N).take 0)) (by simp) ?_
    refine g_v (v_assign rfl) rfl ?_
    refine g_nil ?_
    refine g_seq ?_
    refine g_seq ?_
    refine g_reg ?_
    refine g_v (v_assign rfl) rfl ?_
    refine g_nil ?_
    refine g_block ?_
    refine g_loop (α := Nat × Option Addr × Nat) (fun z => z.1 ≤ (ids 24 S.N).length) (fun z => U [(0, ptr b 0), (3, sl z.2.1 ((ids 40 S.B).length + z.1) z.2.2), (6, sl s64 (ids 24 S.N).length c64), (7, I z.1)]) (fun z => owL 49 3 z.2.1 z.2.2 (chR (bRows 40 S.B ++ (nRows 24 S.N).take z.1)) :: roL 1 s64 (intR (ids 24 S.N)) :: pt b (.cells #[ptr x 0, sl s L.length c, I n] 70 (0, 0)) :: ixr x (xS S) :: owL 73 4 s c (ptR (L)) :: F) (fun z => (ids 24 S.N).length - z.1) (0, s3, c3) (by simp) [0, 3, 6, 7] rfl rfl ?_
    rintro ⟨k, s3, c3⟩ hk
    simp only [] at hk ⊢
    refine g_seq ?_
    refine g_seq ?_
    refine g_reg ?_
    refine g_v (v_move rfl) rfl ?_
    refine g_v (v_move rfl) rfl ?_
    refine g_v (v_len Tryz.underlying82 rfl) rfl ?_
    refine g_v (v_lss rfl rfl) rfl ?_
    refine g_nil ?_
    refine g_cond rfl (fun h68 => ?_) (fun h68 => ?_)
    · simp at h68
      have hki : k < (ids 24 S.N).length := by omega
      obtain ⟨q, hq⟩ : ∃ q, (ids 24 S.N)[k]? = some q := ⟨_, List.getElem?_eq_getElem hki⟩
      obtain ⟨hqr, hqs⟩ := mem_ids.1 (List.mem_of_getElem? hq)
      have hgn := gN_sm h q
      have h4r := thr_len_le (n := (gN S.N q).refs) (by omega)
      have h4k0 := thr_len_le (n := (gN S.N q).k0) (by have := hgn.2 (gN S.N q).k0 (by simp [kd]); omega)
      have h4k1 := thr_len_le (n := (gN S.N q).k1) (by have := hgn.2 (gN S.N q).k1 (by simp [kd]); omega)
      have h4k2 := thr_len_le (n := (gN S.N q).k2) (by have := hgn.2 (gN S.N q).k2 (by simp [kd]); omega)
      have h4k3 := thr_len_le (n := (gN S.N q).k3) (by have := hgn.2 (gN S.N q).k3 (by simp [kd]); omega)
      refine g_skip ?_
      refine g_seq ?_
      refine g_block ?_
      refine g_seq ?_
      refine g_drawZ (Lf := [pt b (.cells #[ptr x 0, sl s L.length c, I n] 70 (0, 0)), ixr x (xS S), roL 1 s64 (intR (ids 24 S.N))]) [(0, false), (1, false), (2, false), (3, false), (4, false), (5, false), (6, false), (7, false), (8, false), (9, false), (10, false), (11, false), (12, true)] 13 rfl (by kernel_rfl) (by kernel_rfl) rfl (by kernel_rfl) (by kernel_rfl) ?_
      refine d_v rfl (v_move rfl) rfl ?_
      refine d_v rfl (v_nilCheck rfl) rfl ?_
      refine d_v rfl (v_fieldAddr 0 Tryz.underlying70 rfl rfl Tryz.sizeOf59 (by decide) rfl) rfl ?_
      refine d_v rfl (v_load (v := ptr x 0) Tryz.isAgg59 rfl rfl) rfl ?_
      refine d_v rfl (v_move rfl) rfl ?_
      refine d_v rfl (v_move rfl) rfl ?_
      refine d_v rfl (v_idxS k Tryz.underlying82 Tryz.sizeOf3 rfl rfl rfl hki (by rw [intR_len]; exact hki)) rfl ?_
      refine d_v rfl (v_loadS0 (v := I q) Tryz.isAgg3 rfl (intR_at hq) rfl) rfl ?_
      refine d_v rfl (v_nilCheck rfl) rfl ?_
      refine d_v rfl (v_fieldAddr 82 Tryz.underlying68 rfl rfl Tryz.sizeOf66 (by decide) rfl) rfl ?_
      refine d_v rfl (v_idxA q.toNat Tryz.underlying66 Tryz.sizeOf65 rfl rfl (by omega) (by omega)) rfl ?_
      refine d_v rfl (v_loadA (vs := ndC (gN S.N q)) Tryz.isAgg65 Tryz.sizeOf65 rfl rfl (by rw [← xS_gN (by omega)]; exact xC_ldN (by omega) (by omega))) rfl ?_
      refine d_l rfl (l_alloc #[I 0, I 0, I 0, I 0, I 0] Tryz.zeroValue65) rfl ?_
      rintro _ _ ⟨b8, rfl, rfl⟩
      refine d_nil ?_
      refine g_l0 (l_storeA (cs := #[I 0, I 0, I 0, I 0, I 0]) (vs := ndC (gN S.N q)) (ndC (gN S.N q)).toArray Tryz.sizeOf65 rfl rfl rfl rfl (by simp) (splice_whole rfl)) ?_
      rintro _ _ rfl
      refine g_nil ?_
      refine g_draw (Lf := [pt b8 (.cells (ndC (gN S.N q)).toArray 65 (0, 0)), roL 1 s64 (intR (ids 24 S.N))]) [(0, false), (1, false), (2, false), (3, false), (4, false), (7, false), (8, false), (10, false), (11, false), (12, false), (15, false), (16, false), (17, false), (20, false), (21, false), (22, false), (25, false), (26, false), (27, false), (5, true), (6, false), (9, true), (13, true), (14, false), (18, true), (19, false), (23, true), (24, false), (28, true), (29, false), (30, false), (31, true), (32, true), (33, false)] (by kernel_rfl) (by kernel_rfl) rfl (by kernel_rfl) ?_
      refine d_v rfl (v_move rfl) rfl ?_
      refine d_v rfl (v_move rfl) rfl ?_
      refine d_v rfl (v_move rfl) rfl ?_
      refine d_v rfl (v_idxS k Tryz.underlying82 Tryz.sizeOf3 rfl rfl rfl hki (by rw [intR_len]; exact hki)) rfl ?_
      refine d_v rfl (v_loadS0 (v := I q) Tryz.isAgg3 rfl (intR_at hq) rfl) rfl ?_
      refine d_v rfl (v_fieldAddr 4 Tryz.underlying65 rfl rfl Tryz.sizeOf3 (by decide) rfl) rfl ?_
      refine d_v rfl (v_load (v := I (gN S.N q).refs) Tryz.isAgg3 rfl rfl) rfl ?_
      refine d_v rfl (v_fieldAddr 0 Tryz.underlying65 rfl rfl Tryz.sizeOf63 (by decide) rfl) rfl ?_
      refine d_v rfl (v_idxA 0 Tryz.underlying63 Tryz.sizeOf3 rfl rfl rfl (by decide)) rfl ?_
      refine d_v rfl (v_load (v := I (gN S.N q).k0) Tryz.isAgg3 rfl rfl) rfl ?_
      refine d_v rfl (v_fieldAddr 0 Tryz.underlying65 rfl rfl Tryz.sizeOf63 (by decide) rfl) rfl ?_
      refine d_v rfl (v_idxA 1 Tryz.underlying63 Tryz.sizeOf3 rfl rfl rfl (by decide)) rfl ?_
      refine d_v rfl (v_load (v := I (gN S.N q).k1) Tryz.isAgg3 rfl rfl) rfl ?_
      refine d_v rfl (v_fieldAddr 0 Tryz.underlying65 rfl rfl Tryz.sizeOf63 (by decide) rfl) rfl ?_
      refine d_v rfl (v_idxA 2 Tryz.underlying63 Tryz.sizeOf3 rfl rfl rfl (by decide)) rfl ?_
      refine d_v rfl (v_load (v := I (gN S.N q).k2) Tryz.isAgg3 rfl rfl) rfl ?_
      refine d_v rfl (v_fieldAddr 0 Tryz.underlying65 rfl rfl Tryz.sizeOf63 (by decide) rfl) rfl ?_
      refine d_v rfl (v_idxA 3 Tryz.underlying63 Tryz.sizeOf3 rfl rfl rfl (by decide)) rfl ?_
      refine d_v rfl (v_load (v := I (gN S.N q).k3) Tryz.isAgg3 rfl rfl) rfl ?_
      refine d_l rfl (l_call (Pre := []) Tryz.call34 rfl (ct_R_three (q) (by omega))) rfl ?_
      rintro _ _ ⟨rfl, rfl⟩
      refine d_v rfl (v_cat rfl rfl (by have := thr_len_le (n := q) (by omega); simp; omega)) rfl ?_
      refine d_l rfl (l_call (Pre := []) Tryz.call34 rfl (ct_R_three ((gN S.N q).refs) (by omega))) rfl ?_
      rintro _ _ ⟨rfl, rfl⟩
      refine d_l rfl (l_call (Pre := []) Tryz.call34 rfl (ct_R_three ((gN S.N q).k0) (by have := hgn.2 (gN S.N q).k0 (by simp [kd]); omega))) rfl ?_
      rintro _ _ ⟨rfl, rfl⟩
      refine d_v rfl (v_cat rfl rfl (by have := h4r; have := h4k0; omega)) rfl ?_
      refine d_l rfl (l_call (Pre := []) Tryz.call34 rfl (ct_R_three ((gN S.N q).k1) (by have := hgn.2 (gN S.N q).k1 (by simp [kd]); omega))) rfl ?_
      rintro _ _ ⟨rfl, rfl⟩
      refine d_v rfl (v_cat rfl rfl (by simp only [List.length_append]; omega)) rfl ?_
      refine d_l rfl (l_call (Pre := []) Tryz.call34 rfl (ct_R_three ((gN S.N q).k2) (by have := hgn.2 (gN S.N q).k2 (by simp [kd]); omega))) rfl ?_
      rintro _ _ ⟨rfl, rfl⟩
      refine d_v rfl (v_cat rfl rfl (by simp only [List.length_append]; omega)) rfl ?_
      refine d_l rfl (l_call (Pre := []) Tryz.call34 rfl (ct_R_three ((gN S.N q).k3) (by have := hgn.2 (gN S.N q).k3 (by simp [kd]); omega))) rfl ?_
      rintro _ _ ⟨rfl, rfl⟩
      refine d_v rfl (v_cat rfl rfl (by simp only [List.length_append]; omega)) rfl ?_
      refine d_v rfl (v_build rfl (bld49_0_1 _ rfl _ rfl)) rfl ?_
      have hnv : thr (gN S.N q).refs ++ thr (gN S.N q).k0 ++ thr (gN S.N q).k1 ++ thr (gN S.N q).k2 ++ thr (gN S.N q).k3 = nVal (gN S.N q) := by simp [nVal, kd]
      rw [hnv]
      refine d_l rfl (l_buildSlice [encC (nRow q (gN S.N q))] Tryz.underlying23 Tryz.sizeOf49 Tryz.zeroValue49 rfl rfl rfl (by intro r hr; simp at hr; subst hr; rfl) (by decide) (by decide)) rfl ?_
      rintro _ _ ⟨b114, rfl, rfl⟩
      refine d_l rfl (l_append Tryz.underlying23 Tryz.sizeOf49 Tryz.zeroValue49 rfl Tryz.typeInfo49 (by decide) rfl rfl (by rw [chR_len]; simp [bRows, nRows]; omega) rfl (by intro r hr; simp at hr; subst hr; rfl) (by intro r hr; simp at hr; subst hr; rfl) ⟨by omega, by decide, by decide⟩) rfl ?_
      rintro _ _ ⟨s115, c115, rfl, rfl⟩
      rw [chR_snoc, List.append_assoc (bRows 40 S.B), tk_snoc (nRows_at hq)]
      refine d_v rfl (v_assign rfl) rfl ?_
      refine d_nil ?_
      refine g_blk ?_
      refine g_reg ?_
      refine g_v (v_move rfl) rfl ?_
      refine g_v (v_add rfl rfl (w64 (by omega))) rfl ?_
      refine g_v (v_assign rfl) rfl ?_
      refine g_nil ?_
      exact g_again (k + 1, s115, c115) (by simp only []; omega) (by simp only []; omega) [0, 3, 6, 7] rfl rfl
    · simp at h68
      obtain rfl : k = (ids 24 S.N).length := by omega
      rw [List.take_of_length_le (l := nRows 24 S.N) (by rw [nRows_len]; omega)]
      refine g_exit rfl ?_
      refine g_seq ?_
      refine g_seq ?_
      refine g_reg ?_
      refine g_v (v_assign rfl) rfl ?_
      refine g_nil ?_
      refine g_owEq s3 (chR (bRows 40 S.B ++ nRows 24 S.N ++ (L.map pRow).take 0)) (by simp) ?_
      refine g_block ?_
      refine g_loop (α := Nat × Option Addr × Nat) (fun z => z.1 ≤ L.length) (fun z => U [(0, ptr b 0), (3, sl z.2.1 ((ids 40 S.B).length + (ids 24 S.N).length + z.1) z.2.2), (9, I z.1)]) (fun z => owL 49 3 z.2.1 z.2.2 (chR (bRows 40 S.B ++ nRows 24 S.N ++ (L.map pRow).take z.1)) :: pt b (.cells #[ptr x 0, sl s L.length c, I n] 70 (0, 0)) :: ixr x (xS S) :: owL 73 4 s c (ptR (L)) :: F) (fun z => L.length - z.1) (0, s3, c3) (by simp) [0, 3, 9] rfl rfl ?_
      rintro ⟨k, s3, c3⟩ hk
      simp only [] at hk ⊢
      refine g_seq ?_
      refine g_seq ?_
      refine g_reg ?_
      refine g_v (v_move rfl) rfl ?_
      refine g_v (v_move rfl) rfl ?_
      refine g_v (v_nilCheck rfl) rfl ?_
      refine g_v (v_fieldAddr 1 Tryz.underlying70 rfl rfl Tryz.sizeOf56 (by decide) rfl) rfl ?_
      refine g_v (v_load (v := sl s (L).length c) Tryz.isAgg56 rfl rfl) rfl ?_
      refine g_v (v_len Tryz.underlying56 rfl) rfl ?_
      refine g_v (v_lss rfl rfl) rfl ?_
      refine g_nil ?_
      refine g_cond rfl (fun h122 => ?_) (fun h122 => ?_)
      · simp at h122
        have hkn : k < L.length := by omega
        obtain ⟨p0, hp⟩ : ∃ p0, L[k]? = some p0 := ⟨_, List.getElem?_eq_getElem hkn⟩
        have hps := h.pts p0 (List.mem_of_getElem? hp)
        refine g_skip ?_
        refine g_seq ?_
        refine g_block ?_
        refine g_seq ?_
        refine g_reg ?_
        refine g_v (v_move rfl) rfl ?_
        refine g_v (v_nilCheck rfl) rfl ?_
        refine g_v (v_fieldAddr 1 Tryz.underlying70 rfl rfl Tryz.sizeOf56 (by decide) rfl) rfl ?_
        refine g_v (v_load (v := sl s (L).length c) Tryz.isAgg56 rfl rfl) rfl ?_
        refine g_v (v_move rfl) rfl ?_
        refine g_v (v_idxS (k) Tryz.underlying56 Tryz.sizeOf73 rfl rfl rfl hkn (by rw [ptR_len]; exact hkn)) rfl ?_
        refine g_v (v_loadAS (row := encPt p0) Tryz.isAgg73 Tryz.sizeOf73 rfl (ptR_at hp) rfl) rfl ?_
        refine g_l (l_alloc #[I 0, I 0, I 0, I 0] Tryz.zeroValue73) rfl ?_
        rintro _ _ ⟨b10, rfl, rfl⟩
        refine g_l0 (l_storeA (cs := #[I 0, I 0, I 0, I 0]) (vs := encPt (p0)) (encPt (p0)).toArray Tryz.sizeOf73 rfl rfl rfl rfl (by simp) (splice_whole rfl)) ?_
        rintro _ _ rfl
        refine g_nil ?_
        refine g_draw (Lf := [pt b10 (.cells (encPt p0).toArray 73 (0, 0))]) [(0, false), (1, false), (2, false), (5, false), (6, false), (8, false), (9, false), (12, false), (13, false), (3, true), (4, false), (7, true), (10, true), (11, false), (14, true), (15, false), (16, false), (17, true), (18, true), (19, false)] (by kernel_rfl) (by kernel_rfl) rfl (by kernel_rfl) ?_
        refine d_v rfl (v_move rfl) rfl ?_
        refine d_v rfl (v_fieldAddr 0 Tryz.underlying73 rfl rfl Tryz.sizeOf3 (by decide) rfl) rfl ?_
        refine d_v rfl (v_load (v := I p0.id) Tryz.isAgg3 rfl rfl) rfl ?_
        refine d_v rfl (v_fieldAddr 1 Tryz.underlying73 rfl rfl Tryz.sizeOf3 (by decide) rfl) rfl ?_
        refine d_v rfl (v_load (v := I p0.disk) Tryz.isAgg3 rfl rfl) rfl ?_
        refine d_v rfl (v_fieldAddr 2 Tryz.underlying73 rfl rfl Tryz.sizeOf3 (by decide) rfl) rfl ?_
        refine d_v rfl (v_load (v := I p0.size) Tryz.isAgg3 rfl rfl) rfl ?_
        refine d_v rfl (v_fieldAddr 3 Tryz.underlying73 rfl rfl Tryz.sizeOf3 (by decide) rfl) rfl ?_
        refine d_v rfl (v_load (v := I p0.root) Tryz.isAgg3 rfl rfl) rfl ?_
        refine d_l rfl (l_call (Pre := []) Tryz.call34 rfl (ct_R_three (p0.id) (by omega))) rfl ?_
        rintro _ _ ⟨rfl, rfl⟩
        refine d_v rfl (v_cat rfl rfl (by have := thr_len_le (n := p0.id) (by omega); simp; omega)) rfl ?_
        refine d_l rfl (l_call (Pre := []) Tryz.call34 rfl (ct_R_three (p0.disk) (by omega))) rfl ?_
        rintro _ _ ⟨rfl, rfl⟩
        refine d_l rfl (l_call (Pre := []) Tryz.call34 rfl (ct_R_three (p0.size) (by omega))) rfl ?_
        rintro _ _ ⟨rfl, rfl⟩
        refine d_v rfl (v_cat rfl rfl (by have := thr_len_le (n := p0.disk) (by omega); have := thr_len_le (n := p0.size) (by omega); omega)) rfl ?_
        refine d_l rfl (l_call (Pre := []) Tryz.call34 rfl (ct_R_three (p0.root) (by omega))) rfl ?_
        rintro _ _ ⟨rfl, rfl⟩
        refine d_v rfl (v_cat rfl rfl (by have := thr_len_le (n := p0.disk) (by omega); have := thr_len_le (n := p0.size) (by omega); have := thr_len_le (n := p0.root) (by omega); simp; omega)) rfl ?_
        refine d_v rfl (v_build rfl (bld49_0_1 _ rfl _ rfl)) rfl ?_
        refine d_l rfl (l_buildSlice [encC (pRow p0)] Tryz.underlying23 Tryz.sizeOf49 Tryz.zeroValue49 rfl rfl rfl (by intro r hr; simp at hr; subst hr; rfl) (by decide) (by decide)) rfl ?_
        rintro _ _ ⟨b149, rfl, rfl⟩
        refine d_l rfl (l_append Tryz.underlying23 Tryz.sizeOf49 Tryz.zeroValue49 rfl Tryz.typeInfo49 (by decide) rfl rfl (by rw [chR_len]; simp [bRows, nRows]; omega) rfl (by intro r hr; simp at hr; subst hr; rfl) (by intro r hr; simp at hr; subst hr; rfl) ⟨by omega, by decide, by decide⟩) rfl ?_
        rintro _ _ ⟨s150, c150, rfl, rfl⟩
        rw [chR_snoc, List.append_assoc (bRows 40 S.B ++ nRows 24 S.N), tk_snoc (show (L.map pRow)[k]? = some (pRow p0) by simp [hp])]
        refine d_v rfl (v_assign rfl) rfl ?_
        refine d_nil ?_
        refine g_blk ?_
        refine g_reg ?_
        refine g_v (v_move rfl) rfl ?_
        refine g_v (v_add rfl rfl (w64 (by omega))) rfl ?_
        refine g_v (v_assign rfl) rfl ?_
        refine g_nil ?_
        exact g_again (k + 1, s150, c150) (by simp only []; omega) (by simp only []; omega) [0, 3, 9] rfl rfl
      · simp at h122
        obtain rfl : k = L.length := by omega
        rw [List.take_of_length_le (l := L.map pRow) (by simp)]
        refine g_exit rfl ?_
        refine g_seq ?_
        refine g_reg ?_
        refine g_v (v_move rfl) rfl ?_
        refine g_v (v_move rfl) rfl ?_
        refine g_v (v_nilCheck rfl) rfl ?_
        refine g_v (v_fieldAddr 2 Tryz.underlying70 rfl rfl Tryz.sizeOf3 (by decide) rfl) rfl ?_
        refine g_v (v_load (v := I n) Tryz.isAgg3 rfl rfl) rfl ?_
        refine g_l (l_call (Pre := []) Tryz.call34 rfl (ct_R_three (n) (by have := h.n1; omega))) rfl ?_
        rintro _ _ ⟨rfl, rfl⟩
        refine g_v (v_build rfl (bld49_0_1 _ rfl _ rfl)) rfl ?_
        refine g_l (l_buildSlice [encC (xRow n)] Tryz.underlying23 Tryz.sizeOf49 Tryz.zeroValue49 rfl rfl rfl (by intro r hr; simp at hr; subst hr; rfl) (by decide) (by decide)) rfl ?_
        rintro _ _ ⟨b158, rfl, rfl⟩
        refine g_l (l_append Tryz.underlying23 Tryz.sizeOf49 Tryz.zeroValue49 rfl Tryz.typeInfo49 (by decide) rfl rfl (by rw [chR_len]; simp [bRows, nRows]; omega) rfl (by intro r hr; simp at hr; subst hr; rfl) (by intro r hr; simp at hr; subst hr; rfl) ⟨by omega, by decide, by decide⟩) rfl ?_
        rintro _ _ ⟨s159, c159, rfl, rfl⟩
        rw [chR_snoc, show bRows 40 S.B ++ nRows 24 S.N ++ L.map pRow ++ [xRow n] = rowsF S L n from rfl]
        refine g_v (v_assign rfl) rfl ?_
        refine g_nil ?_
        refine g_shutRV b x s c S L n ?_
        exact g_retSl rfl rfl rfl (by rw [rowsF_len])

end Go.Proofs.YthdjckbjjfiopaaGreatDoor
