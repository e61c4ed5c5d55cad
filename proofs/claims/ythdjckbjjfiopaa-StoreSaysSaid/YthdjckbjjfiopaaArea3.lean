/- Walks through the rest of package area and the reference's functions on areas. No condition. -/
import Derived.Test.YthdjckbjjfiopaaArea2
namespace Go.Proofs.Ythdjckbjjfiopaa
open Go.Sl Go.Proofs
set_option linter.unusedVariables false
set_option linter.unusedSimpArgs false
def hasA (l : List Area) (p : Int) : Bool := l.any fun a => decide (a.fr ≤ p ∧ p < a.fr + a.many)
def cntA : List Area → Int
  | [] => 0
  | a :: l => a.many + cntA l
theorem cntA_app (l r : List Area) : cntA (l ++ r) = cntA l + cntA r := by induction l with
  | nil => simp [cntA]
  | cons a l ih => simp [cntA, ih]; omega
theorem cntA_bd {l : List Area} (h : okV l) : 0 ≤ cntA l ∧ cntA l ≤ 16 * l.length := by induction l with
  | nil => simp [cntA]
  | cons a l ih => have := h a (by simp); have := ih (fun b hb => h b (by simp [hb])); simp [cntA]; omega
theorem take_at {α : Type} {l : List α} {k : Nat} {a : α} (h : l[k]? = some a) : l.take (k + 1) = l.take k ++ [a] := by
  obtain ⟨h1, h2⟩ := List.getElem?_eq_some_iff.1 h
  rw [List.take_succ_eq_append_getElem h1, h2]
theorem okV_take {l : List Area} (h : okV l) (k : Nat) : okV (l.take k) := fun a ha => h a (List.mem_of_mem_take ha)
def pg (m : Nat → Bool) (from_ many : Int) : Nat → Nat → (Nat → Bool) → Int → (Nat → Bool) × Int
  | 0, _, out, _ => (out, -1)
  | r + 1, k, out, n => if (!m k || decide ((k : Int) < from_)) = true then pg m from_ many r (k + 1) out n
    else if n = many then (out, k) else pg m from_ many r (k + 1) (fun i => if i = k then true else out i) (n + 1)
def pageM (m : Nat → Bool) (from_ many : Int) : (Nat → Bool) × Int := pg m from_ many 16 0 (fun _ => false) 0
theorem pg_step (m : Nat → Bool) (from_ many : Int) {k : Nat} (h : k < 16) (out : Nat → Bool) (n : Int) : pg m from_ many (16 - k) k out n = if (!m k || decide ((k : Int) < from_)) = true then pg m from_ many (16 - (k + 1)) (k + 1) out n
    else if n = many then (out, (k : Int)) else pg m from_ many (16 - (k + 1)) (k + 1) (fun i => if i = k then true else out i) (n + 1) := by
  rw [show 16 - k = (16 - (k + 1)) + 1 by omega, pg]
theorem zeroM : bA (fun _ => false) = Array.replicate 16 (Bo false) := mk_zero

theorem ct_area_Has (l : List Area) (s : Option Addr) (cap : Nat) (p : Int) (hp : ok64 p) (hl : l.length ≤ 1000000) (hv : okV l) (F : List HProp) : Ct Try.prog 25 [sl s l.length cap, I p] ([roL 2 s (rowsA l)] ++ F) (R1 (Bo (hasA l p)) (roL 2 s (rowsA l) :: F)) := by
  show Ct Try.prog 25 [sl s l.length cap, I p] (roL 2 s (rowsA l) :: F) _
  refine Ct.of Try.func25 rfl 27 Try.ntmps25 (by simp) fun w0 => ?_
  simp only [ok64] at hp
  refine g_seq ?_
  refine g_reg ?_
  refine g_v (v_assign rfl) rfl ?_
  refine g_nil ?_
  refine g_seq ?_
  refine g_seq ?_
  refine g_reg ?_
  refine g_v (v_move rfl) rfl ?_
  refine g_v (v_len Try.underlying22 rfl) rfl ?_
  refine g_v (v_move rfl) rfl ?_
  refine g_nil ?_
  refine g_block ?_
  refine g_loop (α := Nat) (fun k => k ≤ l.length ∧ hasA (l.take k) p = false) (fun k => U [(1, I p), (7, sl s l.length cap), (8, I l.length), (9, I k)]) (fun _ => roL 2 s (rowsA l) :: F) (fun k => l.length - k) 0 ⟨by simp, rfl⟩ [1, 7, 8, 9] rfl rfl ?_
  rintro k ⟨hk, hno⟩
  refine g_seq ?_
  refine g_reg ?_
  refine g_v (v_lss rfl rfl) rfl ?_
  refine g_nil ?_
  refine g_seq ?_
  refine g_cond rfl (fun h10 => ?_) (fun h10 => ?_)
  · obtain ⟨a, ha_a⟩ : ∃ a, l[k]? = some a := ⟨l[k]'(by simp at h10; omega), by simp at h10; simp⟩
    have hkn_a : k < l.length := (List.getElem?_eq_some_iff.1 ha_a).1
    have hkr_a : k < (rowsA l).length := by rw [rowsA_len]; exact hkn_a
    have hr_a := rowsA_at ha_a
    obtain ⟨hv1, hv2, hv3⟩ := hv a (List.mem_of_getElem? ha_a)
    refine g_skip ?_
    refine g_seq ?_
    refine g_block ?_
    refine g_seq ?_
    refine g_reg ?_
    refine g_v (v_idxS _ Try.underlying22 Try.sizeOf170 rfl rfl rfl (by assumption) (by assumption)) rfl ?_
    refine g_v (v_loadAS Try.isAgg170 Try.sizeOf170 rfl (by assumption) rfl) rfl ?_
    refine g_l (l_alloc #[I 0, I 0] Try.zeroValue170) rfl ?_
    rintro _ _ ⟨b6, rfl, rfl⟩
    refine g_l0 (l_storeA #[I a.fr, I a.many] Try.sizeOf170 rfl rfl rfl rfl (by decide) rfl) ?_
    rintro _ _ rfl
    refine g_nil ?_
    refine g_seq ?_
    refine g_reg ?_
    refine g_v (v_move rfl) rfl ?_
    refine g_v (v_fieldAddr 0 Try.underlying170 rfl rfl Try.sizeOf3 (by decide) rfl) rfl ?_
    refine g_v (v_load Try.isAgg3 rfl rfl) rfl ?_
    refine g_v (v_geq rfl rfl) rfl ?_
    refine g_v (v_move rfl) rfl ?_
    refine g_gv rfl rfl (fun hg => v_move rfl) rfl rfl ?_
    refine g_gv rfl rfl (fun hg => v_fieldAddr 0 Try.underlying170 rfl rfl Try.sizeOf3 (by decide) rfl) rfl rfl ?_
    refine g_gv rfl rfl (fun hg => v_load Try.isAgg3 rfl rfl) rfl rfl ?_
    refine g_gv rfl rfl (fun hg => v_sub rfl rfl (w64 (by simp at hg; omega))) rfl rfl ?_
    refine g_gv rfl rfl (fun hg => v_fieldAddr 1 Try.underlying170 rfl rfl Try.sizeOf3 (by decide) rfl) rfl rfl ?_
    refine g_gv rfl rfl (fun hg => v_load Try.isAgg3 rfl rfl) rfl rfl ?_
    refine g_gv rfl rfl (fun hg => v_lss rfl rfl) rfl rfl ?_
    refine g_v (v_and rfl rfl) rfl ?_
    refine g_nil ?_
    refine g_cond rfl (fun h25 => ?_) (fun h25 => ?_)
    · simp at h25
      refine g_seq ?_
      refine g_reg ?_
      refine g_v (v_assign rfl) rfl ?_
      refine g_nil ?_
      refine g_ret1 rfl rfl ?_
      show Bo true = _
      have : hasA l p = true := by simp only [hasA, List.any_eq_true]; exact ⟨a, List.mem_of_getElem? ha_a, by simp; omega⟩
      rw [this]
    · simp at h25
      refine g_skip ?_
      refine g_blk ?_
      refine g_reg ?_
      refine g_v (v_add rfl rfl (w64 (by omega))) rfl ?_
      refine g_v (v_move rfl) rfl ?_
      refine g_nil ?_
      exact g_again (k + 1) ⟨by omega, by rw [take_at ha_a]; simp only [hasA, List.any_append] at hno ⊢; rw [hno]; simp; intro hx; have := h25 hx; omega⟩ (by omega) [1, 7, 8, 9] rfl rfl
  · simp at h10
    obtain rfl : k = l.length := by omega
    rw [List.take_length] at hno
    refine g_exit rfl ?_
    refine g_seq ?_
    refine g_reg ?_
    refine g_v (v_assign rfl) rfl ?_
    refine g_nil ?_
    refine g_ret1 rfl rfl ?_
    show Bo false = _
    rw [hno]

theorem ct_area_Count (l : List Area) (s : Option Addr) (cap : Nat) (hl : l.length ≤ 1000000) (hv : okV l) (F : List HProp) : Ct Try.prog 26 [sl s l.length cap] ([roL 2 s (rowsA l)] ++ F) (R1 (I (cntA l)) (roL 2 s (rowsA l) :: F)) := by
  show Ct Try.prog 26 [sl s l.length cap] (roL 2 s (rowsA l) :: F) _
  refine Ct.of Try.func26 rfl 18 Try.ntmps26 (by simp) fun w0 => ?_
  refine g_seq ?_
  refine g_reg ?_
  refine g_v (v_assign rfl) rfl ?_
  refine g_nil ?_
  refine g_seq ?_
  refine g_reg ?_
  refine g_v (v_assign rfl) rfl ?_
  refine g_nil ?_
  refine g_seq ?_
  refine g_seq ?_
  refine g_reg ?_
  refine g_v (v_move rfl) rfl ?_
  refine g_v (v_len Try.underlying22 rfl) rfl ?_
  refine g_v (v_move rfl) rfl ?_
  refine g_nil ?_
  refine g_block ?_
  refine g_loop (α := Nat) (fun k => k ≤ l.length) (fun k => U [(3, I (cntA (l.take k))), (6, sl s l.length cap), (7, I l.length), (8, I k)]) (fun _ => roL 2 s (rowsA l) :: F) (fun k => l.length - k) 0 (by simp) [3, 6, 7, 8] rfl rfl ?_
  intro k hk
  refine g_seq ?_
  refine g_reg ?_
  refine g_v (v_lss rfl rfl) rfl ?_
  refine g_nil ?_
  refine g_seq ?_
  refine g_cond rfl (fun h9 => ?_) (fun h9 => ?_)
  · obtain ⟨a, ha_a⟩ : ∃ a, l[k]? = some a := ⟨l[k]'(by simp at h9; omega), by simp at h9; simp⟩
    have hkn_a : k < l.length := (List.getElem?_eq_some_iff.1 ha_a).1
    have hkr_a : k < (rowsA l).length := by rw [rowsA_len]; exact hkn_a
    have hr_a := rowsA_at ha_a
    obtain ⟨hv1, hv2, hv3⟩ := hv a (List.mem_of_getElem? ha_a)
    refine g_skip ?_
    refine g_seq ?_
    refine g_block ?_
    refine g_seq ?_
    refine g_reg ?_
    refine g_v (v_idxS _ Try.underlying22 Try.sizeOf170 rfl rfl rfl (by assumption) (by assumption)) rfl ?_
    refine g_v (v_loadAS Try.isAgg170 Try.sizeOf170 rfl (by assumption) rfl) rfl ?_
    refine g_l (l_alloc #[I 0, I 0] Try.zeroValue170) rfl ?_
    rintro _ _ ⟨b5, rfl, rfl⟩
    refine g_l0 (l_storeA #[I a.fr, I a.many] Try.sizeOf170 rfl rfl rfl rfl (by decide) rfl) ?_
    rintro _ _ rfl
    refine g_nil ?_
    refine g_reg ?_
    refine g_v (v_move rfl) rfl ?_
    refine g_v (v_fieldAddr 1 Try.underlying170 rfl rfl Try.sizeOf3 (by decide) rfl) rfl ?_
    refine g_v (v_load Try.isAgg3 rfl rfl) rfl ?_
    refine g_v (v_add rfl rfl (w64 (by have := cntA_bd (okV_take hv k); simp at this; omega))) rfl ?_
    refine g_v (v_assign rfl) rfl ?_
    refine g_nil ?_
    refine g_blk ?_
    refine g_reg ?_
    refine g_v (v_add rfl rfl (w64 (by omega))) rfl ?_
    refine g_v (v_move rfl) rfl ?_
    refine g_nil ?_
    exact g_again (k + 1) (by omega) (by omega) [3, 6, 7, 8] rfl (by simp [U, take_at ha_a, cntA_app, cntA])
  · simp at h9
    obtain rfl : k = l.length := by omega
    rw [List.take_length]
    refine g_exit rfl ?_
    refine g_seq ?_
    refine g_reg ?_
    refine g_v (v_move rfl) rfl ?_
    refine g_v (v_assign rfl) rfl ?_
    refine g_nil ?_
    refine g_ret1 rfl rfl ?_
    exact rfl

theorem ct_area_Page (l : List Area) (s : Option Addr) (cap : Nat) (from_ many : Int) (hl : l.length ≤ 1000000) (hv : okV l) (F : List HProp) : Ct Try.prog 17 [sl s l.length cap, I from_, I many] ([roL 2 s (rowsA l)] ++ F) (RSf (fun v => .tuple #[v, I (pageM (mk l) from_ many).2]) 170 2 (ofM (pageM (mk l) from_ many).1).length (rowsA (ofM (pageM (mk l) from_ many).1)) (roL 2 s (rowsA l) :: F)) := by
  show Ct Try.prog 17 [sl s l.length cap, I from_, I many] (roL 2 s (rowsA l) :: F) _
  refine Ct.of Try.func17 rfl 40 Try.ntmps17 (by simp) fun w0 => ?_
  refine g_seq ?_
  refine g_reg ?_
  refine g_v (v_assign rfl) rfl ?_
  refine g_v (v_assign rfl) rfl ?_
  refine g_nil ?_
  refine g_seq ?_
  refine g_reg ?_
  refine g_v (v_move rfl) rfl ?_
  refine g_l (l_call (Pre := [roL 2 s (rowsA l)]) Try.call123 rfl (ct_area_marks _ _ _ hl hv)) rfl ?_
  rintro _ _ ⟨rfl, rfl⟩
  refine g_l (l_alloc (Array.replicate 16 (Bo false)) Try.zeroValue34) rfl ?_
  rintro _ _ ⟨b8, rfl, rfl⟩
  refine g_l0 (l_storeA (bA (mk l)) Try.sizeOf34 rfl rfl (bL_len _) (bL_ones _) (by simp) (splice_all (by simp [bL]))) ?_
  rintro _ _ rfl
  refine g_nil ?_
  refine g_seq ?_
  refine g_reg ?_
  refine g_l (l_alloc (bA (fun _ => false)) (fun w => by rw [zeroM]; exact Try.zeroValue34 w)) rfl ?_
  rintro _ _ ⟨b9, rfl, rfl⟩
  refine g_nil ?_
  refine g_seq ?_
  refine g_reg ?_
  refine g_v (v_assign rfl) rfl ?_
  refine g_nil ?_
  refine g_seq ?_
  refine g_seq ?_
  refine g_reg ?_
  refine g_v (v_loadA (vs := bL (mk l)) Try.isAgg34 Try.sizeOf34 rfl (bL_len _) bA_load) rfl ?_
  refine g_v (v_move rfl) rfl ?_
  refine g_nil ?_
  refine g_block ?_
  refine g_loop (α := Nat × (Nat → Bool) × Nat) (fun z => z.1 ≤ 16 ∧ z.2.2 ≤ z.1 ∧ pageM (mk l) from_ many = pg (mk l) from_ many (16 - z.1) z.1 z.2.1 z.2.2) (fun z => U [(1, I from_), (2, I many), (9, ptr b9 0), (10, I z.2.2), (15, .agg (bA (mk l))), (16, I z.1)]) (fun z => pt b9 (.cells (bA z.2.1) 34 (0, 0)) :: roL 2 s (rowsA l) :: F) (fun z => 16 - z.1) (0, (fun _ => false), 0) ⟨by simp, by simp, rfl⟩ [1, 2, 9, 10, 15, 16] rfl rfl ?_
  rintro ⟨k, out, n⟩ ⟨hk16, hn, hpg⟩
  simp only [] at hk16 hn hpg ⊢
  refine g_seq ?_
  refine g_reg ?_
  refine g_v (v_lss rfl rfl) rfl ?_
  refine g_nil ?_
  refine g_seq ?_
  refine g_cond rfl (fun h17 => ?_) (fun h17 => ?_)
  · simp at h17
    have hk : k < 16 := by omega
    rw [pg_step _ _ _ hk] at hpg
    refine g_skip ?_
    refine g_seq ?_
    refine g_block ?_
    refine g_seq ?_
    refine g_reg ?_
    refine g_v (v_move rfl) rfl ?_
    refine g_v (v_index k Try.underlying34 Try.sizeOf4 Try.isAgg4 rfl rfl rfl hk (by simpa [bA] using bL_at hk)) rfl ?_
    refine g_v (v_assign rfl) rfl ?_
    refine g_v (v_assign rfl) rfl ?_
    refine g_nil ?_
    refine g_seq ?_
    refine g_seq ?_
    refine g_reg ?_
    refine g_v (v_move rfl) rfl ?_
    refine g_v (v_not rfl) rfl ?_
    refine g_v (v_move rfl) rfl ?_
    refine g_gv rfl rfl (fun hg => v_move rfl) rfl rfl ?_
    refine g_gv rfl rfl (fun hg => v_move rfl) rfl rfl ?_
    refine g_gv rfl rfl (fun hg => v_lss rfl rfl) rfl rfl ?_
    refine g_v (v_or rfl rfl) rfl ?_
    refine g_nil ?_
    refine g_cond rfl (fun h26 => ?_) (fun h26 => ?_)
    · have h26' := h26
      simp at h26
      refine g_exit rfl ?_
      refine g_reg ?_
      refine g_v (v_add rfl rfl (w64 (by omega))) rfl ?_
      refine g_v (v_move rfl) rfl ?_
      refine g_nil ?_
      exact g_again (k + 1, out, n) ⟨by simp; omega, by simp; omega, by rw [hpg, if_pos (by simp; omega)]⟩ (by simp; omega) [1, 2, 9, 10, 15, 16] rfl rfl
    · have h26' := h26
      simp at h26
      refine g_skip ?_
      refine g_seq ?_
      refine g_seq ?_
      refine g_reg ?_
      refine g_v (v_move rfl) rfl ?_
      refine g_v (v_move rfl) rfl ?_
      refine g_v (v_eql rfl rfl) rfl ?_
      refine g_nil ?_
      refine g_cond rfl (fun h29 => ?_) (fun h29 => ?_)
      · simp at h29
        refine g_seq ?_
        refine g_reg ?_
        refine g_v (v_loadA (vs := bL (out)) Try.isAgg34 Try.sizeOf34 rfl (bL_len _) bA_load) rfl ?_
        refine g_l (l_call (Pre := []) Try.call124 rfl (ct_area_of out)) rfl ?_
        rintro _ _ ⟨s9, c9, rfl, rfl⟩
        refine g_v (v_move rfl) rfl ?_
        refine g_v (v_assign rfl) rfl ?_
        refine g_v (v_assign rfl) rfl ?_
        refine g_nil ?_
        rw [if_neg (by rw [h26']; simp), if_pos h29] at hpg
        rw [hpg]
        exact g_retSf (f := fun v => .tuple #[v, I k]) rfl rfl rfl rfl
      · simp at h29
        refine g_skip ?_
        refine g_seq ?_
        refine g_reg ?_
        refine g_v (v_move rfl) rfl ?_
        refine g_v (v_idxA k Try.underlying34 Try.sizeOf4 rfl rfl rfl hk) rfl ?_
        refine g_l0 (l_store (bA (fun i => if i = k then true else out i)) Try.sizeOf4 rfl rfl rfl (by simp [bA, bL]; omega) (bA_set hk true)) ?_
        rintro _ _ rfl
        refine g_nil ?_
        refine g_reg ?_
        refine g_v (v_move rfl) rfl ?_
        refine g_v (v_add rfl rfl (w64 (by omega))) rfl ?_
        refine g_v (v_assign rfl) rfl ?_
        refine g_nil ?_
        refine g_blk ?_
        refine g_reg ?_
        refine g_v (v_add rfl rfl (w64 (by omega))) rfl ?_
        refine g_v (v_move rfl) rfl ?_
        refine g_nil ?_
        exact g_again (k + 1, (fun i => if i = k then true else out i), n + 1) ⟨by simp; omega, by simp; omega, by rw [hpg, if_neg (by simp; omega), if_neg (by omega)]; rfl⟩ (by simp; omega) [1, 2, 9, 10, 15, 16] rfl rfl
  · simp at h17
    obtain rfl : k = 16 := by omega
    refine g_exit rfl ?_
    refine g_seq ?_
    refine g_reg ?_
    refine g_v (v_loadA (vs := bL (out)) Try.isAgg34 Try.sizeOf34 rfl (bL_len _) bA_load) rfl ?_
    refine g_l (l_call (Pre := []) Try.call124 rfl (ct_area_of out)) rfl ?_
    rintro _ _ ⟨s9, c9, rfl, rfl⟩
    refine g_v (v_assign rfl) rfl ?_
    refine g_v (v_assign rfl) rfl ?_
    refine g_nil ?_
    have hpg2 : pageM (mk l) from_ many = (out, -1) := hpg
    rw [hpg2]
    exact g_retSf (f := fun v => .tuple #[v, I (-1)]) rfl rfl rfl rfl

end Go.Proofs.Ythdjckbjjfiopaa
