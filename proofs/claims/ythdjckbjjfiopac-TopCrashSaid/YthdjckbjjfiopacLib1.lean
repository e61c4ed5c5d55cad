/- Walks through small functions on bytes and through library functions: bits.Mul, slices.Repeat, slices.Clone. No condition. -/
import Derived.Test.YthdjckbjjfiopacSlB
import Derived.Test.YthdjckbjjfiopacTypes
namespace Go.Proofs.Ythdjckbjjfiopac
open Go.Sl Go.Proofs
set_option linter.unusedVariables false
set_option linter.unusedSimpArgs false
abbrev Bytes := List UInt8
def strR (l : List Bytes) : List (List Value) := l.map fun s => [Str s]
theorem strR_len (l : List Bytes) : (strR l).length = l.length := by simp [strR]
theorem strR_rep (n : Nat) (s : Bytes) : strR (List.replicate n s) = List.replicate n [Str s] := by simp [strR]
def nulls (n : Nat) : Bytes := List.replicate n 0
def fullB (s : Bytes) : Bytes := s ++ nulls (80 - s.length)
theorem fdiv0 {n : Int} {k : Nat} (h0 : 0 ≤ n) (h : n < 2 ^ k) : n.fdiv (2 ^ k) = 0 := by
  rw [Int.fdiv_eq_ediv_of_nonneg _ (by have : (0 : Int) < 2 ^ k := by exact Int.pow_pos (by decide)
                                       omega)]
  exact Int.ediv_eq_zero_of_lt h0 h
def repR (s : Bytes) (n k : Nat) : List (List Value) := List.replicate k [Str s] ++ List.replicate (n - k) [Str []]
theorem repR_len (s : Bytes) {n k : Nat} (h : k ≤ n) : (repR s n k).length = n := by simp [repR]; omega
theorem repR_one (s : Bytes) {n k : Nat} (r : List Value) (h : r ∈ repR s n k) : r.length = 1 ∧ ones r = true := by
  rcases List.mem_append.1 h with h | h <;> (obtain ⟨_, rfl⟩ := List.mem_replicate.1 h; exact ⟨rfl, rfl⟩)
theorem repR_first (s : Bytes) {n : Nat} (h : 1 ≤ n) : (List.replicate n [Str []]).take 0 ++ (([[Str s]] : List (List Value)).drop 0).take (Nat.min 1 n) ++ (List.replicate n [Str []]).drop (0 + Nat.min 1 n) = repR s n 1 := by
  have : Nat.min 1 n = 1 := Nat.min_eq_left h
  simp [repR, this]
theorem repR_next (s : Bytes) {n k : Nat} (h : k ≤ n) : (repR s n k).take k ++ ((repR s n k).drop 0).take (Nat.min k (n - k)) ++ (repR s n k).drop (k + Nat.min k (n - k)) = repR s n (k + Nat.min k (n - k)) := by
  have h1 : Nat.min k (n - k) ≤ k := Nat.min_le_left _ _
  have h2 : Nat.min k (n - k) ≤ n - k := Nat.min_le_right _ _
  generalize Nat.min k (n - k) = r at *
  simp only [repR, List.drop_zero]
  rw [List.take_append_of_le_length (by simp), List.take_append_of_le_length (by simp; omega), List.drop_append, List.take_replicate, List.take_replicate, List.drop_replicate]
  simp [List.drop_replicate]
  rw [Nat.min_eq_left h1, show n - k - r = n - (k + r) by omega]
abbrev Uw (n : Int) : Value := .int .u64 n

theorem ct_disk_full (s : Bytes) (hs : s.length ≤ 80) (F : List HProp) : Ct Try.prog 83 [Str s] ([] ++ F) (R1 (Str (fullB s)) F) := by
  show Ct Try.prog 83 [Str s] (F) _
  refine Ct.of Try.func83 rfl 10 Try.ntmps83 (by simp) fun w0 => ?_
  refine g_seq ?_
  refine g_reg ?_
  refine g_v (v_assign rfl) rfl ?_
  refine g_nil ?_
  refine g_seq ?_
  refine g_reg ?_
  refine g_v (v_move rfl) rfl ?_
  refine g_v (v_move rfl) rfl ?_
  refine g_v (v_slen Try.underlying9 rfl) rfl ?_
  refine g_v (v_sub rfl rfl (w64 (by omega))) rfl ?_
  refine g_l (l_makeSlice (80 - s.length) Try.underlying128 Try.sizeOf5 Try.zeroValue5 Try.typeInfo5 rfl (by decide) rfl rfl (by omega) ⟨by omega, by decide⟩) rfl ?_
  rintro _ _ ⟨b7, rfl, rfl⟩
  refine g_v (v_bytesStr (l := nulls (80 - s.length)) Try.underlying128 Try.underlying5 Try.underlying9 rfl (bytesR_rep _) (by simp [nulls])) rfl ?_
  refine g_v (v_cat rfl rfl (by simp [nulls]; omega)) rfl ?_
  refine g_v (v_assign rfl) rfl ?_
  refine g_nil ?_
  refine g_ret1 rfl rfl ?_
  exact rfl

theorem ct_Mul64_one (n : Int) (hn : 0 ≤ n ∧ n < 4294967296) (F : List HProp) : Ct Try.prog 129 [Uw 1, Uw n] ([] ++ F) (R1 (.tuple #[Uw 0, Uw n]) F) := by
  show Ct Try.prog 129 [Uw 1, Uw n] (F) _
  refine Ct.of Try.func129 rfl 51 Try.ntmps129 (by simp) fun w0 => ?_
  refine g_seq ?_
  refine g_reg ?_
  refine g_v (v_assign rfl) rfl ?_
  refine g_v (v_assign rfl) rfl ?_
  refine g_nil ?_
  refine g_seq ?_
  refine g_reg ?_
  refine g_v (v_move rfl) rfl ?_
  refine g_v (v_maskU 32 rfl (by omega) (by decide) (by decide)) rfl ?_
  refine g_v (v_assign rfl) rfl ?_
  refine g_nil ?_
  rw [show (1 : Int) % 2 ^ 32 = 1 by decide]
  refine g_seq ?_
  refine g_reg ?_
  refine g_v (v_move rfl) rfl ?_
  refine g_v (v_shr (r := 0) rfl rfl (by decide) (fdiv0 (k := 32) (by omega) (by omega))) rfl ?_
  refine g_v (v_assign rfl) rfl ?_
  refine g_nil ?_
  refine g_seq ?_
  refine g_reg ?_
  refine g_v (v_move rfl) rfl ?_
  refine g_v (v_maskU 32 rfl (by omega) (by decide) (by decide)) rfl ?_
  refine g_v (v_assign rfl) rfl ?_
  refine g_nil ?_
  rw [show n % 2 ^ 32 = n by omega]
  refine g_seq ?_
  refine g_reg ?_
  refine g_v (v_move rfl) rfl ?_
  refine g_v (v_shr (r := 0) rfl rfl (by decide) (fdiv0 (k := 32) (by omega) (by omega))) rfl ?_
  refine g_v (v_assign rfl) rfl ?_
  refine g_nil ?_
  refine g_seq ?_
  refine g_reg ?_
  refine g_v (v_move rfl) rfl ?_
  refine g_v (v_move rfl) rfl ?_
  refine g_v (v_mul (r := n) rfl rfl (by rw [Int.one_mul]; exact wu64 (by omega))) rfl ?_
  refine g_v (v_assign rfl) rfl ?_
  refine g_nil ?_
  refine g_seq ?_
  refine g_reg ?_
  refine g_v (v_move rfl) rfl ?_
  refine g_v (v_move rfl) rfl ?_
  refine g_v (v_mul (r := 0) rfl rfl (by rw [Int.zero_mul]; exact wu64 (by omega))) rfl ?_
  refine g_v (v_move rfl) rfl ?_
  refine g_v (v_shr (r := 0) rfl rfl (by decide) (fdiv0 (k := 32) (by omega) (by omega))) rfl ?_
  refine g_v (v_add (r := 0) rfl rfl (by rw [show (0 + 0 : Int) = 0 by omega]; exact wu64 (by omega))) rfl ?_
  refine g_v (v_assign rfl) rfl ?_
  refine g_nil ?_
  refine g_seq ?_
  refine g_reg ?_
  refine g_v (v_move rfl) rfl ?_
  refine g_v (v_maskU 32 rfl (by omega) (by decide) (by decide)) rfl ?_
  refine g_v (v_assign rfl) rfl ?_
  refine g_nil ?_
  rw [show (0 : Int) % 2 ^ 32 = 0 by decide]
  refine g_seq ?_
  refine g_reg ?_
  refine g_v (v_move rfl) rfl ?_
  refine g_v (v_shr (r := 0) rfl rfl (by decide) (fdiv0 (k := 32) (by omega) (by omega))) rfl ?_
  refine g_v (v_assign rfl) rfl ?_
  refine g_nil ?_
  refine g_seq ?_
  refine g_reg ?_
  refine g_v (v_move rfl) rfl ?_
  refine g_v (v_move rfl) rfl ?_
  refine g_v (v_move rfl) rfl ?_
  refine g_v (v_mul (r := 0) rfl rfl (by rw [Int.mul_zero]; exact wu64 (by omega))) rfl ?_
  refine g_v (v_add (r := 0) rfl rfl (by rw [show (0 + 0 : Int) = 0 by omega]; exact wu64 (by omega))) rfl ?_
  refine g_v (v_assign rfl) rfl ?_
  refine g_nil ?_
  refine g_seq ?_
  refine g_reg ?_
  refine g_v (v_move rfl) rfl ?_
  refine g_v (v_move rfl) rfl ?_
  refine g_v (v_mul (r := 0) rfl rfl (by rw [Int.zero_mul]; exact wu64 (by omega))) rfl ?_
  refine g_v (v_move rfl) rfl ?_
  refine g_v (v_add (r := 0) rfl rfl (by rw [show (0 + 0 : Int) = 0 by omega]; exact wu64 (by omega))) rfl ?_
  refine g_v (v_move rfl) rfl ?_
  refine g_v (v_shr (r := 0) rfl rfl (by decide) (fdiv0 (k := 32) (by omega) (by omega))) rfl ?_
  refine g_v (v_add (r := 0) rfl rfl (by rw [show (0 + 0 : Int) = 0 by omega]; exact wu64 (by omega))) rfl ?_
  refine g_v (v_assign rfl) rfl ?_
  refine g_nil ?_
  refine g_seq ?_
  refine g_reg ?_
  refine g_v (v_move rfl) rfl ?_
  refine g_v (v_move rfl) rfl ?_
  refine g_v (v_mul (r := n) rfl rfl (by rw [Int.one_mul]; exact wu64 (by omega))) rfl ?_
  refine g_v (v_assign rfl) rfl ?_
  refine g_nil ?_
  refine g_ret1 rfl rfl ?_
  exact rfl

theorem ct_Mul_one (n : Int) (hn : 0 ≤ n ∧ n < 4294967296) (F : List HProp) : Ct Try.prog 116 [Uw 1, Uw n] ([] ++ F) (R1 (.tuple #[Uw 0, Uw n]) F) := by
  show Ct Try.prog 116 [Uw 1, Uw n] (F) _
  refine Ct.of Try.func116 rfl 30 Try.ntmps116 (by simp) fun w0 => ?_
  refine g_seq ?_
  refine g_reg ?_
  refine g_v (v_assign rfl) rfl ?_
  refine g_v (v_assign rfl) rfl ?_
  refine g_nil ?_
  refine g_seq ?_
  refine g_false rfl ?_
  refine g_skip ?_
  refine g_seq ?_
  refine g_reg ?_
  refine g_v (v_move rfl) rfl ?_
  refine g_v (v_move rfl) rfl ?_
  refine g_l (l_call (Pre := []) Try.call129 rfl (ct_Mul64_one n hn)) rfl ?_
  rintro _ _ ⟨rfl, rfl⟩
  refine g_v (v_move rfl) rfl ?_
  refine g_v (v_extract rfl rfl) rfl ?_
  refine g_v (v_extract rfl rfl) rfl ?_
  refine g_v (v_assign rfl) rfl ?_
  refine g_v (v_assign rfl) rfl ?_
  refine g_nil ?_
  refine g_seq ?_
  refine g_reg ?_
  refine g_v (v_move rfl) rfl ?_
  refine g_v (v_move rfl) rfl ?_
  refine g_v (v_assign rfl) rfl ?_
  refine g_v (v_assign rfl) rfl ?_
  refine g_nil ?_
  refine g_ret1 rfl rfl ?_
  exact rfl

theorem ct_Repeat_str (x : Bytes) (s : Option Addr) (cap : Nat) (n : Nat) (hn : 1 ≤ n ∧ n ≤ 1048576) (F : List HProp) : Ct Try.prog 82 [sl s 1 cap, I n] ([roL 1 s [[Str x]]] ++ F) (RSl 9 1 n (strR (List.replicate n x)) (roL 1 s [[Str x]] :: F)) := by
  show Ct Try.prog 82 [sl s 1 cap, I n] (roL 1 s [[Str x]] :: F) _
  refine Ct.of Try.func82 rfl 48 Try.ntmps82 (by simp) fun w0 => ?_
  refine g_seq ?_
  refine g_reg ?_
  refine g_v (v_assign rfl) rfl ?_
  refine g_nil ?_
  refine g_seq ?_
  refine g_seq ?_
  refine g_reg ?_
  refine g_v (v_move rfl) rfl ?_
  refine g_v (v_lss rfl rfl) rfl ?_
  refine g_nil ?_
  refine g_cond rfl (fun h10 => ?_) (fun h10 => ?_)
  · exfalso
    simp at h10
    omega
  · skip
    refine g_skip ?_
    refine g_seq ?_
    refine g_reg ?_
    refine g_v (v_move rfl) rfl ?_
    refine g_v (v_len Try.underlying28 rfl) rfl ?_
    refine g_v (v_conv (r := 1) Try.underlying3 Try.underlying146 rfl (wu64 (by decide))) rfl ?_
    refine g_v (v_move rfl) rfl ?_
    refine g_v (v_conv Try.underlying3 Try.underlying146 rfl (wu64 (by omega))) rfl ?_
    refine g_l (l_call (Pre := []) Try.call116 rfl (ct_Mul_one n (by omega))) rfl ?_
    rintro _ _ ⟨rfl, rfl⟩
    refine g_v (v_move rfl) rfl ?_
    refine g_v (v_extract rfl rfl) rfl ?_
    refine g_v (v_extract rfl rfl) rfl ?_
    refine g_v (v_assign rfl) rfl ?_
    refine g_v (v_assign rfl) rfl ?_
    refine g_nil ?_
    refine g_seq ?_
    refine g_seq ?_
    refine g_reg ?_
    refine g_v (v_move rfl) rfl ?_
    refine g_v (v_gtr rfl rfl) rfl ?_
    refine g_v (v_move rfl) rfl ?_
    refine g_gv rfl rfl (fun hg => v_move rfl) rfl rfl ?_
    refine g_gv rfl rfl (fun hg => v_gtr rfl rfl) rfl rfl ?_
    refine g_v (v_or rfl rfl) rfl ?_
    refine g_nil ?_
    refine g_cond rfl (fun h26 => ?_) (fun h26 => ?_)
    · exfalso
      simp at h26
      omega
    · skip
      refine g_skip ?_
      refine g_seq ?_
      refine g_reg ?_
      refine g_v (v_move rfl) rfl ?_
      refine g_v (v_conv Try.underlying146 Try.underlying3 rfl (w64 (by omega))) rfl ?_
      refine g_l (l_makeSlice n Try.underlying28 Try.sizeOf9 Try.zeroValue9 Try.typeInfo9 rfl (by decide) rfl rfl rfl ⟨by omega, by decide⟩) rfl ?_
      rintro _ _ ⟨b30, rfl, rfl⟩
      refine g_v (v_assign rfl) rfl ?_
      refine g_nil ?_
      refine g_seq ?_
      refine g_reg ?_
      refine g_v (v_move rfl) rfl ?_
      refine g_v (v_move rfl) rfl ?_
      refine g_l (l_copy (s := some ⟨b30, 0, none⟩) (s2 := s) (l := 0) (p := 0) Try.underlying28 Try.sizeOf9 (by decide) rfl rfl (.inl ⟨rfl, rfl⟩) (.inl ⟨rfl, rfl⟩) (by simp) (by simp) (by simp) (by simp [ones, one])) rfl ?_
      rintro _ _ ⟨rfl, rfl⟩
      refine g_owEq (some ⟨b30, 0, none⟩) (repR x n 1) (repR_first x hn.1) ?_
      rw [show Nat.min 1 n = 1 from Nat.min_eq_left hn.1]
      refine g_v (v_assign rfl) rfl ?_
      refine g_nil ?_
      refine g_seq ?_
      refine g_block ?_
      refine g_loop (α := Nat) (fun k => 1 ≤ k ∧ k ≤ n) (fun k => U [(7, sl (some ⟨b30, 0, none⟩) n n), (8, I k)]) (fun k => owL 9 1 (some ⟨b30, 0, none⟩) n (repR x n k) :: roL 1 s [[Str x]] :: F) (fun k => n - k) 1 (by omega) [7, 8] rfl rfl ?_
      rintro k ⟨hk1, hk2⟩
      refine g_seq ?_
      refine g_seq ?_
      refine g_reg ?_
      refine g_v (v_move rfl) rfl ?_
      refine g_v (v_move rfl) rfl ?_
      refine g_v (v_len Try.underlying28 rfl) rfl ?_
      refine g_v (v_lss rfl rfl) rfl ?_
      refine g_nil ?_
      refine g_cond rfl (fun h37 => ?_) (fun h37 => ?_)
      · simp at h37
        refine g_skip ?_
        refine g_block ?_
        refine g_draw (Lf := []) [(0, false), (1, false), (2, false), (3, false), (4, false), (5, false), (6, false), (7, true), (8, false), (9, false)] (by kernel_rfl) (by kernel_rfl) rfl (by kernel_rfl) ?_
        refine d_v rfl (v_move rfl) rfl ?_
        refine d_v rfl (v_move rfl) rfl ?_
        refine d_v rfl (v_move rfl) rfl ?_
        refine d_v rfl (v_slLo Try.underlying28 Try.sizeOf9 rfl rfl rfl (by omega)) rfl ?_
        refine d_v rfl (v_move rfl) rfl ?_
        refine d_v rfl (v_move rfl) rfl ?_
        refine d_v rfl (v_slHi Try.underlying28 Try.sizeOf9 rfl rfl rfl (by omega)) rfl ?_
        refine d_l rfl (l_copy (s := some ⟨b30, 0, none⟩) (s2 := some ⟨b30, 0, none⟩) (l := k) (p := 0) Try.underlying28 Try.sizeOf9 (by decide) rfl rfl (.inr (.inl (if_neg (by omega)))) (.inl ⟨rfl, rfl⟩) (by rw [repR_len x (by omega)]; omega) (by rw [repR_len x (by omega)]; omega) (fun r hr => (repR_one x r hr).1) (fun r hr => (repR_one x r hr).2)) rfl ?_
        rintro _ _ ⟨rfl, rfl⟩
        refine g_owEq (some ⟨b30, 0, none⟩) (repR x n (k + Nat.min k (n - k))) (repR_next x (by omega)) ?_
        have hmn : Nat.min k (n - k) ≤ n - k := Nat.min_le_right _ _
        refine d_v rfl (v_add rfl rfl (w64 (by omega))) rfl ?_
        refine d_v rfl (v_assign rfl) rfl ?_
        refine d_nil ?_
        refine g_blk ?_
        have hm : 1 ≤ Nat.min k (n - k) ∧ Nat.min k (n - k) ≤ n - k := ⟨Nat.le_min.2 ⟨by omega, by omega⟩, Nat.min_le_right _ _⟩
        exact g_again (k + Nat.min k (n - k)) ⟨by omega, by omega⟩ (by omega) [7, 8] rfl rfl
      · simp at h37
        obtain rfl : k = n := by omega
        refine g_owEq (some ⟨b30, 0, none⟩) (strR (List.replicate k x)) (by simp [repR, strR]) ?_
        refine g_exit rfl ?_
        refine g_seq ?_
        refine g_reg ?_
        refine g_v (v_move rfl) rfl ?_
        refine g_v (v_assign rfl) rfl ?_
        refine g_nil ?_
        exact g_retSl rfl rfl rfl rfl

theorem ct_Clone_str (l : List Bytes) (a : Addr) (cap : Nat) (hl : l.length ≤ 1048576) (F : List HProp) : Ct Try.prog 84 [sl (some a) l.length cap] ([owL 9 1 (some a) cap (strR l)] ++ F) (RSl 9 1 l.length (strR l) (owL 9 1 (some a) cap (strR l) :: F)) := by
  show Ct Try.prog 84 [sl (some a) l.length cap] (owL 9 1 (some a) cap (strR l) :: F) _
  refine Ct.of Try.func84 rfl 8 Try.ntmps84 (by simp) fun w0 => ?_
  refine g_seq ?_
  refine g_reg ?_
  refine g_v (v_assign rfl) rfl ?_
  refine g_nil ?_
  refine g_seq ?_
  refine g_seq ?_
  refine g_reg ?_
  refine g_v (v_move rfl) rfl ?_
  refine g_v (v_slEq Try.underlying28 rfl) rfl ?_
  refine g_nil ?_
  refine g_false rfl ?_
  refine g_skip ?_
  refine g_seq ?_
  refine g_reg ?_
  refine g_l (l_build0 Try.underlying28 Try.sizeOf9) rfl ?_
  rintro _ _ ⟨b5, rfl, rfl⟩
  refine g_v (v_move rfl) rfl ?_
  refine g_l (l_append Try.underlying28 Try.sizeOf9 Try.zeroValue9 rfl Try.typeInfo9 (by decide) rfl rfl rfl (strR_len l) (by simp [strR]) (by simp [strR, ones, one]) ⟨by omega, by decide, by decide⟩) rfl ?_
  rintro _ _ ⟨s7, c7, rfl, rfl⟩
  rw [Nat.zero_add]
  simp only [List.nil_append]
  refine g_v (v_assign rfl) rfl ?_
  refine g_nil ?_
  exact g_retSl rfl rfl rfl rfl

end Go.Proofs.Ythdjckbjjfiopac
