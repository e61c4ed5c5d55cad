/- Walks through slices.Chunk over bytes. No condition. -/
import Derived.Test.YthdjckbjjfiopacStB
import Derived.Test.YthdjckbjjfiopacStS
namespace Go.Proofs.Ythdjckbjjfiopac
open Go Go.Sl Go.Proofs
set_option linter.unusedVariables false
set_option linter.unusedSimpArgs false
abbrev ckV (b : Nat) (t : Bytes) (k : Nat) : Value := sl (some ⟨b, 80 * k, none⟩) (chunk t k).length (chunk t k).length
def ckP (b2 b3 b cap : Nat) (t : Bytes) : List HProp := [pt b2 (.cells #[sl (some ⟨b, 0, none⟩) t.length cap] 128 (0, 0)), pt b3 (.cells #[I 80] 3 (0, 0)), roL 1 (some ⟨b, 0, none⟩) (bytesR t)]
theorem min_chunk {t : Bytes} {k : Nat} : (if (((t.length - 80 * k : Nat) : Nat) : Int) < 80 then ((t.length - 80 * k : Nat) : Int) else 80) = (((chunk t k).length : Nat) : Int) := by
  rw [chunk_len_eq]
  by_cases h : t.length - 80 * k < 80
  · rw [if_pos (by omega), show Nat.min 80 (t.length - 80 * k) = t.length - 80 * k from Nat.min_eq_right (by omega)]
  · rw [if_neg (by omega), show Nat.min 80 (t.length - 80 * k) = 80 from Nat.min_eq_left (by omega)]; rfl
theorem ckV_eq {t : Bytes} {k b : Nat} (hk : 80 * k < t.length) : sl (if 80 * k + (chunk t k).length = 80 * k then (some ⟨b, 0, none⟩ : Option Addr) else (some ⟨b, 0, none⟩ : Option Addr).map (·.add (80 * k * 1))) (80 * k + (chunk t k).length - 80 * k) (80 * k + (chunk t k).length - 80 * k) = ckV b t k := by
  have hc : (chunk t k).length ≠ 0 := by
    rw [chunk_len_eq]
    have h1 : 1 ≤ Nat.min 80 (t.length - 80 * k) := Nat.le_min.2 ⟨by decide, by omega⟩
    omega
  rw [if_neg (by omega), Nat.add_sub_cancel_left, Option.map_some, add_mk, Nat.zero_add, Nat.mul_one]

theorem ct_Chunk (s : Option Addr) (n cap : Nat) (F : List HProp) : Ct Try.prog 58 [sl s n cap, I 80] ([] ++ F) (fun v L' => ∃ b2 b3, v = .func (.func 87) #[] #[ptr b2 0, ptr b3 0] ∧ L' = pt b2 (.cells #[sl s n cap] 128 (0, 0)) :: pt b3 (.cells #[I 80] 3 (0, 0)) :: F) := by
  show Ct Try.prog 58 [sl s n cap, I 80] (F) _
  refine Ct.of Try.func58 rfl 9 Try.ntmps58 (by simp) fun w0 => ?_
  refine g_seq ?_
  refine g_reg ?_
  refine g_l (l_box #[sl s n cap] rfl rfl) rfl ?_
  rintro _ _ ⟨b2, rfl, rfl⟩
  refine g_l (l_box #[I 80] rfl rfl) rfl ?_
  rintro _ _ ⟨b3, rfl, rfl⟩
  refine g_v (v_assign rfl) rfl ?_
  refine g_nil ?_
  refine g_seq ?_
  refine g_seq ?_
  refine g_reg ?_
  refine g_v (v_load (v := I 80) Try.isAgg3 rfl rfl) rfl ?_
  refine g_v (v_lss rfl rfl) rfl ?_
  refine g_nil ?_
  refine g_cond rfl (fun h6 => ?_) (fun h6 => ?_)
  · simp at h6
  · skip
    refine g_skip ?_
    refine g_seq ?_
    refine g_reg ?_
    refine g_v (v_makeFunc rfl rfl) rfl ?_
    refine g_v (v_assign rfl) rfl ?_
    refine g_nil ?_
    exact g_retAny (pt b2 (.cells #[sl s n cap] 128 (0, 0)) :: pt b3 (.cells #[I 80] 3 (0, 0)) :: F) rfl ⟨b2, b3, rfl, rfl⟩

theorem ct_Chunk1 (b2 b3 b cap l : Nat) (t : Bytes) (w0 : World) (A : Nat → List HProp) (B : List HProp) (hcap : t.length ≤ cap) (hlen : t.length ≤ 1000000)
    (hr : ∀ k, k < chunks t → RoundAt Try.prog l (ckV b t k) w0 (ckP b2 b3 b cap t ++ A k) (ckP b2 b3 b cap t ++ A (k + 1)) (ckP b2 b3 b cap t ++ B)) :
    ∀ w, Sat w0 w (ckP b2 b3 b cap t ++ A 0) → Calls Try.prog 87 (.func (.yield l) #[] #[] :: [ptr b2 0, ptr b3 0]).toArray w fun e w' => match e with
      | .returned _ => Sat w0 w' (ckP b2 b3 b cap t ++ A (chunks t)) ∨ Sat w0 w' (ckP b2 b3 b cap t ++ B)
      | _ => False := fun w hw => by
  refine Calls.mono (Calls_of Try.func87 rfl 31 Try.ntmps87 (by simp) (L := pt b2 (.cells #[sl (some ⟨b, 0, none⟩) t.length cap] 128 (0, 0)) :: pt b3 (.cells #[I 80] 3 (0, 0)) :: roL 1 (some ⟨b, 0, none⟩) (bytesR t) :: A 0) (R := fun v L' => L' = ckP b2 b3 b cap t ++ A (chunks t) ∨ L' = ckP b2 b3 b cap t ++ B) ?_ w hw) fun e w' he => ?_
  rotate_left
  · cases e with
    | returned v => obtain ⟨L', h1, h2 | h2⟩ := he <;> subst h2
                    · exact .inl h1
                    · exact .inr h1
    | panicked ch => exact he
    | outgrown => exact he
  refine g_seq ?_
  refine g_reg ?_
  refine g_v (v_assign rfl) rfl ?_
  refine g_nil ?_
  refine g_block ?_
  refine g_loop (α := Nat) (fun k => k ≤ chunks t) (fun k => U [(0, .func (.yield l) #[] #[]), (1, ptr b2 0), (2, ptr b3 0), (4, I ((80 * k : Nat) : Int))]) (fun k => pt b2 (.cells #[sl (some ⟨b, 0, none⟩) t.length cap] 128 (0, 0)) :: pt b3 (.cells #[I 80] 3 (0, 0)) :: roL 1 (some ⟨b, 0, none⟩) (bytesR t) :: A k) (fun k => chunks t - k) 0 (Nat.zero_le _) [0, 1, 2, 4] rfl rfl ?_
  intro k hk
  refine g_seq ?_
  refine g_seq ?_
  refine g_reg ?_
  refine g_v (v_move rfl) rfl ?_
  refine g_v (v_load (v := sl (some ⟨b, 0, none⟩) t.length cap) Try.isAgg128 rfl rfl) rfl ?_
  refine g_v (v_len Try.underlying128 rfl) rfl ?_
  refine g_v (v_lss rfl rfl) rfl ?_
  refine g_nil ?_
  refine g_cond rfl (fun h9 => ?_) (fun h9 => ?_)
  · simp at h9
    have hkt : 80 * k < t.length := by omega
    have hcl := chunk_len_eq (t := t) (k := k)
    have hcl1 : (chunk t k).length ≤ 80 ∧ 80 * k + (chunk t k).length ≤ t.length := by
      have h1 : Nat.min 80 (t.length - 80 * k) ≤ 80 := Nat.min_le_left ..
      have h2 : Nat.min 80 (t.length - 80 * k) ≤ t.length - 80 * k := Nat.min_le_right ..
      omega
    refine g_skip ?_
    refine g_seq ?_
    refine g_block ?_
    refine g_seq ?_
    refine g_drawL [(0, false), (1, false), (2, false), (3, false), (4, false), (5, false), (6, false)] (by kernel_rfl) (by kernel_rfl) rfl (by kernel_rfl) ?_
    refine d_v rfl (v_load (v := I 80) Try.isAgg3 rfl rfl) rfl ?_
    refine d_v rfl (v_load (v := sl (some ⟨b, 0, none⟩) t.length cap) Try.isAgg128 rfl rfl) rfl ?_
    refine d_v rfl (v_move rfl) rfl ?_
    refine d_v rfl (v_slLo (l := 80 * k) Try.underlying128 Try.sizeOf5 rfl rfl rfl (by omega)) rfl ?_
    refine d_v rfl (v_len Try.underlying128 rfl) rfl ?_
    refine d_v rfl (v_min rfl rfl) rfl ?_
    refine d_v rfl (v_assign rfl) rfl ?_
    refine d_nil ?_
    rw [min_chunk]
    refine g_seq ?_
    refine g_regY ?_
    refine y_v (v_move rfl) rfl ?_
    refine y_v (v_load (v := sl (some ⟨b, 0, none⟩) t.length cap) Try.isAgg128 rfl rfl) rfl ?_
    refine y_v (v_move rfl) rfl ?_
    refine y_v (v_move rfl) rfl ?_
    refine y_v (v_move rfl) rfl ?_
    refine y_v (v_add (r := ((80 * k + (chunk t k).length : Nat) : Int)) rfl rfl (by rw [show ((80 * k : Nat) : Int) + (((chunk t k).length : Nat) : Int) = ((80 * k + (chunk t k).length : Nat) : Int) by omega]; exact w64 (by omega))) rfl ?_
    refine y_v (v_move rfl) rfl ?_
    refine y_v (v_move rfl) rfl ?_
    refine y_v (v_add (r := ((80 * k + (chunk t k).length : Nat) : Int)) rfl rfl (by rw [show ((80 * k : Nat) : Int) + (((chunk t k).length : Nat) : Int) = ((80 * k + (chunk t k).length : Nat) : Int) by omega]; exact w64 (by omega))) rfl ?_
    refine y_v (v_sl3 (l := 80 * k) (h := 80 * k + (chunk t k).length) (q := 80 * k + (chunk t k).length) Try.underlying128 Try.sizeOf5 rfl rfl rfl rfl rfl rfl rfl (by omega) (by omega) (by omega)) rfl ?_
    rw [ckV_eq hkt]
    refine y_yield (l := l) (v := ckV b t k) rfl rfl (hr k (chunks_lt.2 hkt)) rfl ?_ ?_
    rotate_left
    · refine y_v (v_not rfl) rfl ?_
      refine y_nil ?_
      refine g_true rfl ?_
      exact g_retAny (ckP b2 b3 b cap t ++ B) rfl (.inr rfl)
    show G _ _ _ (pt b2 (.cells #[sl (some ⟨b, 0, none⟩) t.length cap] 128 (0, 0)) :: pt b3 (.cells #[I 80] 3 (0, 0)) :: roL 1 (some ⟨b, 0, none⟩) (bytesR t) :: A (k + 1))
    refine y_v (v_not rfl) rfl ?_
    refine y_nil ?_
    refine g_false rfl ?_
    refine g_skip ?_
    refine g_blk ?_
    refine g_reg ?_
    refine g_v (v_move rfl) rfl ?_
    refine g_v (v_load (v := I 80) Try.isAgg3 rfl rfl) rfl ?_
    refine g_v (v_add (r := ((80 * (k + 1) : Nat) : Int)) rfl rfl (by rw [show ((80 * k : Nat) : Int) + 80 = ((80 * (k + 1) : Nat) : Int) by omega]; exact w64 (by omega))) rfl ?_
    refine g_v (v_assign rfl) rfl ?_
    refine g_nil ?_
    exact g_again (k + 1) (chunks_lt.2 hkt) (by have := chunks_lt.2 hkt; omega) [0, 1, 2, 4] rfl rfl
  · simp at h9
    obtain rfl : k = chunks t := by
      rcases Nat.lt_or_ge k (chunks t) with h | h
      · have := chunks_lt.1 h; omega
      · omega
    refine g_exit rfl ?_
    exact g_end (vs := []) rfl (.inl rfl)

end Go.Proofs.Ythdjckbjjfiopac
