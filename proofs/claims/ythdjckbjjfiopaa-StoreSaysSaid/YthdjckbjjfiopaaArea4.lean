/- Walks through the reference's functions on areas. No condition. -/
import Derived.Test.YthdjckbjjfiopaaArea3
namespace Go.Proofs.Ythdjckbjjfiopaa
open Go.Sl Go.Proofs
set_option linter.unusedVariables false
set_option linter.unusedSimpArgs false
/-- marks while place k is being looked at: the first i areas of l have been -/
def inM (l : List Area) (k i : Nat) (p : Nat) : Bool := if p < k then mk l p else if p = k then mk (l.take i) k else false
theorem inM_zero (l : List Area) : inM l 0 0 = fun _ => false := by funext p; simp [inM, mk]
theorem inM_next {l : List Area} {k : Nat} : inM l k l.length = inM l (k + 1) 0 := by
  funext p
  simp only [inM, List.take_length, List.take_zero]
  by_cases h1 : p < k
  · rw [if_pos h1, if_pos (by omega)]
  · by_cases h2 : p = k
    · subst h2; simp
    · rw [if_neg h1, if_neg h2, if_neg (by omega)]; simp [mk]
theorem inM_hit {l : List Area} {k i : Nat} {a : Area} (h : l[i]? = some a) (hit : a.fr ≤ k ∧ (k : Int) < a.fr + a.many) : (fun p => if p = k then true else inM l k i p) = inM l k (i + 1) := by
  funext p
  simp only [inM, take_at h]
  by_cases h2 : p = k
  · subst h2; simp [mk, hit]
  · simp [h2]
theorem inM_miss {l : List Area} {k i : Nat} {a : Area} (h : l[i]? = some a) (hit : ¬ (a.fr ≤ k ∧ (k : Int) < a.fr + a.many)) : inM l k i = inM l k (i + 1) := by
  funext p
  simp only [inM, take_at h]
  by_cases h2 : p = k
  · subst h2
    have : decide (a.fr ≤ (p : Int) ∧ (p : Int) < a.fr + a.many) = false := decide_eq_false hit
    simp [mk, this]
    intro h1 h3
    exact absurd ⟨h1, h3⟩ hit
  · simp [h2]
theorem inM_all (l : List Area) : bA (inM l 16 0) = bA (mk l) := bA_ext fun j hj => by simp [inM, hj]
theorem take_eq_of {α : Type} {a b : List α} {k : Nat} {x y : α} (h : a.take k = b.take k) (ha : a[k]? = some x) (hb : b[k]? = some y) (e : x = y) : a.take (k + 1) = b.take (k + 1) := by
  rw [take_at ha, take_at hb, h, e]

theorem ct_R_AreasFault (l : List Area) (s : Option Addr) (cap : Nat) (hl : l.length ≤ 1000000) (hok : okA l) (F : List HProp) : Ct Try.prog 16 [sl s l.length cap] ([roL 2 s (rowsA l)] ++ F) (R1 (I (chkA (-1) l)) (roL 2 s (rowsA l) :: F)) := by
  show Ct Try.prog 16 [sl s l.length cap] (roL 2 s (rowsA l) :: F) _
  refine Ct.of Try.func16 rfl 77 Try.ntmps16 (by simp) fun w0 => ?_
  refine g_seq ?_
  refine g_reg ?_
  refine g_v (v_assign rfl) rfl ?_
  refine g_nil ?_
  refine g_seq ?_
  refine g_seq ?_
  refine g_reg ?_
  refine g_v (v_assign rfl) rfl ?_
  refine g_nil ?_
  refine g_block ?_
  refine g_loop (α := Nat × Int) (fun z => z.1 ≤ l.length ∧ okV (l.take z.1) ∧ (z.1 = 0 ∧ z.2 = -1 ∨ 0 < z.1 ∧ ∃ p, l[z.1 - 1]? = some p ∧ z.2 = p.fr + p.many) ∧ chkA (-1) l = chkA z.2 (l.drop z.1)) (fun z => U [(0, sl s l.length cap), (3, I z.1)]) (fun _ => roL 2 s (rowsA l) :: F) (fun z => l.length - z.1) (0, -1) ⟨by simp, by simp [okV], by simp, rfl⟩ [0, 3] rfl rfl ?_
  rintro ⟨k, e⟩ ⟨hk, hvt, hpe, hch⟩
  simp only [] at hk hvt hpe hch ⊢
  refine g_seq ?_
  refine g_seq ?_
  refine g_reg ?_
  refine g_v (v_move rfl) rfl ?_
  refine g_v (v_move rfl) rfl ?_
  refine g_v (v_len Try.underlying22 rfl) rfl ?_
  refine g_v (v_lss rfl rfl) rfl ?_
  refine g_nil ?_
  refine g_cond rfl (fun h7 => ?_) (fun h7 => ?_)
  · simp at h7
    obtain ⟨a, ha_a⟩ : ∃ a, l[k]? = some a := ⟨l[k]'(by omega), by simp⟩
    have hkn_a : k < l.length := (List.getElem?_eq_some_iff.1 ha_a).1
    have hkr_a : k < (rowsA l).length := by rw [rowsA_len]; exact hkn_a
    have hr_a := rowsA_at ha_a
    obtain ⟨ho1, ho2⟩ := hok a (List.mem_of_getElem? ha_a)
    simp only [ok64] at ho1 ho2
    obtain ⟨p, hp⟩ : ∃ p, l[k - 1]? = some p := ⟨l[k - 1]'(by omega), by simp⟩
    have hr_p := rowsA_at hp
    have hpv : 0 < k → 0 ≤ p.fr ∧ 1 ≤ p.many ∧ p.fr + p.many ≤ 16 := fun h0 => hvt p (List.mem_of_getElem? (i := k - 1) (by rw [List.getElem?_take, if_pos (by omega)]; exact hp))
    refine g_skip ?_
    refine g_seq ?_
    refine g_block ?_
    refine g_seq ?_
    refine g_seq ?_
    refine g_drawL [(0, false), (1, false), (2, false), (3, false), (4, false), (5, false), (6, false), (7, false), (8, false), (9, false), (10, false), (11, false), (12, false), (13, false), (14, false), (15, false), (16, false), (17, false), (18, false), (19, false), (20, false), (21, false), (22, false), (23, false), (24, false), (25, false), (26, false), (27, false), (28, false), (29, false), (30, false), (31, false), (32, false), (33, false), (34, false), (35, false), (36, false), (37, false), (38, false), (39, false), (40, false), (41, false), (42, false), (43, false)] (by kernel_rfl) (by kernel_rfl) rfl (by kernel_rfl) ?_
    refine d_v rfl (v_move rfl) rfl ?_
    refine d_v rfl (v_move rfl) rfl ?_
    refine d_v rfl (v_idxS _ Try.underlying22 Try.sizeOf170 rfl rfl rfl (by assumption) (by assumption)) rfl ?_
    refine d_v rfl (v_fieldAdrS (j := _) 0 Try.underlying170 rfl rfl Try.sizeOf3 (by decide) rfl (by assumption)) rfl ?_
    refine d_v rfl (v_loadS Try.isAgg3 rfl (by assumption) rfl) rfl ?_
    refine d_v rfl (v_lss rfl rfl) rfl ?_
    refine d_v rfl (v_move rfl) rfl ?_
    refine d_gv rfl rfl rfl (fun hg => v_move rfl) rfl rfl ?_
    refine d_gv rfl rfl rfl (fun hg => v_move rfl) rfl rfl ?_
    refine d_gv rfl rfl rfl (fun hg => v_idxS _ Try.underlying22 Try.sizeOf170 rfl rfl rfl (by assumption) (by assumption)) rfl rfl ?_
    refine d_gv rfl rfl rfl (fun hg => v_fieldAdrS (j := _) 0 Try.underlying170 rfl rfl Try.sizeOf3 (by decide) rfl (by assumption)) rfl rfl ?_
    refine d_gv rfl rfl rfl (fun hg => v_loadS Try.isAgg3 rfl (by assumption) rfl) rfl rfl ?_
    refine d_gv rfl rfl rfl (fun hg => v_gtr rfl rfl) rfl rfl ?_
    refine d_v rfl (v_or rfl rfl) rfl ?_
    refine d_v rfl (v_move rfl) rfl ?_
    refine d_gv rfl rfl rfl (fun hg => v_move rfl) rfl rfl ?_
    refine d_gv rfl rfl rfl (fun hg => v_move rfl) rfl rfl ?_
    refine d_gv rfl rfl rfl (fun hg => v_idxS _ Try.underlying22 Try.sizeOf170 rfl rfl rfl (by assumption) (by assumption)) rfl rfl ?_
    refine d_gv rfl rfl rfl (fun hg => v_fieldAdrS (j := _) 1 Try.underlying170 rfl rfl Try.sizeOf3 (by decide) rfl (by assumption)) rfl rfl ?_
    refine d_gv rfl rfl rfl (fun hg => v_loadS Try.isAgg3 rfl (by assumption) rfl) rfl rfl ?_
    refine d_gv rfl rfl rfl (fun hg => v_lss rfl rfl) rfl rfl ?_
    refine d_v rfl (v_or rfl rfl) rfl ?_
    refine d_v rfl (v_move rfl) rfl ?_
    refine d_gv rfl rfl rfl (fun hg => v_move rfl) rfl rfl ?_
    refine d_gv rfl rfl rfl (fun hg => v_move rfl) rfl rfl ?_
    refine d_gv rfl rfl rfl (fun hg => v_idxS _ Try.underlying22 Try.sizeOf170 rfl rfl rfl (by assumption) (by assumption)) rfl rfl ?_
    refine d_gv rfl rfl rfl (fun hg => v_fieldAdrS (j := _) 1 Try.underlying170 rfl rfl Try.sizeOf3 (by decide) rfl (by assumption)) rfl rfl ?_
    refine d_gv rfl rfl rfl (fun hg => v_loadS Try.isAgg3 rfl (by assumption) rfl) rfl rfl ?_
    refine d_gv rfl rfl rfl (fun hg => v_gtr rfl rfl) rfl rfl ?_
    refine d_v rfl (v_or rfl rfl) rfl ?_
    refine d_v rfl (v_move rfl) rfl ?_
    refine d_gv rfl rfl rfl (fun hg => v_move rfl) rfl rfl ?_
    refine d_gv rfl rfl rfl (fun hg => v_move rfl) rfl rfl ?_
    refine d_gv rfl rfl rfl (fun hg => v_idxS _ Try.underlying22 Try.sizeOf170 rfl rfl rfl (by assumption) (by assumption)) rfl rfl ?_
    refine d_gv rfl rfl rfl (fun hg => v_fieldAdrS (j := _) 0 Try.underlying170 rfl rfl Try.sizeOf3 (by decide) rfl (by assumption)) rfl rfl ?_
    refine d_gv rfl rfl rfl (fun hg => v_loadS Try.isAgg3 rfl (by assumption) rfl) rfl rfl ?_
    refine d_gv rfl rfl rfl (fun hg => v_move rfl) rfl rfl ?_
    refine d_gv rfl rfl rfl (fun hg => v_move rfl) rfl rfl ?_
    refine d_gv rfl rfl rfl (fun hg => v_idxS _ Try.underlying22 Try.sizeOf170 rfl rfl rfl (by assumption) (by assumption)) rfl rfl ?_
    refine d_gv rfl rfl rfl (fun hg => v_fieldAdrS (j := _) 1 Try.underlying170 rfl rfl Try.sizeOf3 (by decide) rfl (by assumption)) rfl rfl ?_
    refine d_gv rfl rfl rfl (fun hg => v_loadS Try.isAgg3 rfl (by assumption) rfl) rfl rfl ?_
    refine d_gv rfl rfl rfl (fun hg => v_add rfl rfl (w64 (by simp at hg; omega))) rfl rfl ?_
    refine d_gv rfl rfl rfl (fun hg => v_gtr rfl rfl) rfl rfl ?_
    refine d_v rfl (v_or rfl rfl) rfl ?_
    refine d_nil ?_
    refine g_cond rfl (fun h53 => ?_) (fun h53 => ?_)
    · simp at h53
      refine g_seq ?_
      refine g_reg ?_
      refine g_v (v_assign rfl) rfl ?_
      refine g_nil ?_
      refine g_ret1 rfl rfl ?_
      show I 1 = _
      rw [hch, drop_at ha_a, chkA, if_pos (by omega)]
    · simp at h53
      refine g_skip ?_
      refine g_seq ?_
      refine g_drawL [(0, false), (1, false), (2, false), (3, false), (4, false), (5, false), (6, false), (7, false), (8, false), (9, false), (10, false), (11, false), (12, false), (13, false), (14, false), (15, false), (16, false), (17, false), (18, false), (19, false), (20, false), (21, false), (22, false)] (by kernel_rfl) (by kernel_rfl) rfl (by kernel_rfl) ?_
      refine d_v rfl (v_move rfl) rfl ?_
      refine d_v rfl (v_gtr rfl rfl) rfl ?_
      refine d_v rfl (v_move rfl) rfl ?_
      refine d_gv rfl rfl rfl (fun hg => v_move rfl) rfl rfl ?_
      refine d_gv rfl rfl rfl (fun hg => v_move rfl) rfl rfl ?_
      refine d_gv rfl rfl rfl (fun hg => v_idxS _ Try.underlying22 Try.sizeOf170 rfl rfl rfl (by assumption) (by assumption)) rfl rfl ?_
      refine d_gv rfl rfl rfl (fun hg => v_fieldAdrS (j := _) 0 Try.underlying170 rfl rfl Try.sizeOf3 (by decide) rfl (by assumption)) rfl rfl ?_
      refine d_gv rfl rfl rfl (fun hg => v_loadS Try.isAgg3 rfl (by assumption) rfl) rfl rfl ?_
      refine d_gv rfl rfl rfl (fun hg => v_move rfl) rfl rfl ?_
      refine d_gv rfl rfl rfl (fun hg => v_move rfl) rfl rfl ?_
      refine d_gv rfl rfl rfl (fun hg => v_sub rfl rfl (w64 (by simp at hg; omega))) rfl rfl ?_
      refine d_gv rfl rfl rfl (fun hg => v_idxS (k - 1) Try.underlying22 Try.sizeOf170 rfl rfl (by simp at hg; omega) (by omega) (by rw [rowsA_len]; omega)) rfl rfl ?_
      refine d_gv rfl rfl rfl (fun hg => v_fieldAdrS (j := _) 0 Try.underlying170 rfl rfl Try.sizeOf3 (by decide) rfl (by assumption)) rfl rfl ?_
      refine d_gv rfl rfl rfl (fun hg => v_loadS Try.isAgg3 rfl (by assumption) rfl) rfl rfl ?_
      refine d_gv rfl rfl rfl (fun hg => v_move rfl) rfl rfl ?_
      refine d_gv rfl rfl rfl (fun hg => v_move rfl) rfl rfl ?_
      refine d_gv rfl rfl rfl (fun hg => v_sub rfl rfl (w64 (by simp at hg; omega))) rfl rfl ?_
      refine d_gv rfl rfl rfl (fun hg => v_idxS (k - 1) Try.underlying22 Try.sizeOf170 rfl rfl (by simp at hg; omega) (by omega) (by rw [rowsA_len]; omega)) rfl rfl ?_
      refine d_gv rfl rfl rfl (fun hg => v_fieldAdrS (j := _) 1 Try.underlying170 rfl rfl Try.sizeOf3 (by decide) rfl (by assumption)) rfl rfl ?_
      refine d_gv rfl rfl rfl (fun hg => v_loadS Try.isAgg3 rfl (by assumption) rfl) rfl rfl ?_
      refine d_gv rfl rfl rfl (fun hg => v_add rfl rfl (w64 (by simp at hg; have := hpv (by omega); omega))) rfl rfl ?_
      refine d_gv rfl rfl rfl (fun hg => v_leq rfl rfl) rfl rfl ?_
      refine d_v rfl (v_and rfl rfl) rfl ?_
      refine d_nil ?_
      refine g_cond rfl (fun h76 => ?_) (fun h76 => ?_)
      · simp at h76
        refine g_seq ?_
        refine g_reg ?_
        refine g_v (v_assign rfl) rfl ?_
        refine g_nil ?_
        refine g_ret1 rfl rfl ?_
        show I 3 = _
        rw [hch, drop_at ha_a, chkA, if_neg (by omega), if_pos (by rcases hpe with ⟨h1, h2⟩ | ⟨h1, q, hq, h2⟩; omega; rw [hp] at hq; injection hq with hq; subst hq; omega)]
      · simp at h76
        refine g_skip ?_
        refine g_blk ?_
        refine g_reg ?_
        refine g_v (v_move rfl) rfl ?_
        refine g_v (v_add rfl rfl (w64 (by omega))) rfl ?_
        refine g_v (v_assign rfl) rfl ?_
        refine g_nil ?_
        exact g_again (k + 1, a.fr + a.many) ⟨by simp; omega, by rw [take_at ha_a]; intro b hb; rcases List.mem_append.1 hb with h | h; exact hvt b h; simp at h; subst h; omega, by simp [ha_a], by rw [hch, drop_at ha_a]; simp only [chkA]; rw [if_neg (by omega), if_neg (by rcases hpe with ⟨h1, h2⟩ | ⟨h1, q, hq, h2⟩; omega; rw [hp] at hq; injection hq with hq; subst hq; have := h76 h1; omega)]⟩ (by simp; omega) [0, 3] rfl rfl
  · simp at h7
    obtain rfl : k = l.length := by omega
    refine g_exit rfl ?_
    refine g_seq ?_
    refine g_reg ?_
    refine g_v (v_assign rfl) rfl ?_
    refine g_nil ?_
    refine g_ret1 rfl rfl ?_
    show I 0 = _
    rw [hch, List.drop_length]; rfl

theorem ct_R_SameAreas (a b : List Area) (s s' : Option Addr) (cap cap' : Nat) (ha : a.length ≤ 1000000) (hb : b.length ≤ 1000000) (F : List HProp) : Ct Try.prog 19 [sl s a.length cap, sl s' b.length cap'] ([roL 2 s (rowsA a), roL 2 s' (rowsA b)] ++ F) (R1 (Bo (decide (a = b))) (roL 2 s (rowsA a) :: roL 2 s' (rowsA b) :: F)) := by
  show Ct Try.prog 19 [sl s a.length cap, sl s' b.length cap'] (roL 2 s (rowsA a) :: roL 2 s' (rowsA b) :: F) _
  refine Ct.of Try.func19 rfl 26 Try.ntmps19 (by simp) fun w0 => ?_
  refine g_seq ?_
  refine g_reg ?_
  refine g_v (v_assign rfl) rfl ?_
  refine g_nil ?_
  refine g_seq ?_
  refine g_seq ?_
  refine g_reg ?_
  refine g_v (v_move rfl) rfl ?_
  refine g_v (v_len Try.underlying22 rfl) rfl ?_
  refine g_v (v_move rfl) rfl ?_
  refine g_v (v_len Try.underlying22 rfl) rfl ?_
  refine g_v (v_neq rfl rfl) rfl ?_
  refine g_nil ?_
  refine g_cond rfl (fun h10 => ?_) (fun h10 => ?_)
  · simp at h10
    refine g_seq ?_
    refine g_reg ?_
    refine g_v (v_assign rfl) rfl ?_
    refine g_nil ?_
    refine g_ret1 rfl rfl ?_
    show Bo false = _
    rw [decide_eq_false (fun e => h10 (by rw [e]))]
  · simp at h10
    refine g_skip ?_
    refine g_seq ?_
    refine g_seq ?_
    refine g_reg ?_
    refine g_v (v_assign rfl) rfl ?_
    refine g_nil ?_
    refine g_block ?_
    refine g_loop (α := Nat) (fun k => k ≤ a.length ∧ a.take k = b.take k) (fun k => U [(0, sl s a.length cap), (1, sl s' b.length cap'), (5, I k)]) (fun _ => roL 2 s (rowsA a) :: roL 2 s' (rowsA b) :: F) (fun k => a.length - k) 0 ⟨by simp, by simp⟩ [0, 1, 5] rfl rfl ?_
    rintro k ⟨hk, hab⟩
    refine g_seq ?_
    refine g_seq ?_
    refine g_reg ?_
    refine g_v (v_move rfl) rfl ?_
    refine g_v (v_move rfl) rfl ?_
    refine g_v (v_len Try.underlying22 rfl) rfl ?_
    refine g_v (v_lss rfl rfl) rfl ?_
    refine g_nil ?_
    refine g_cond rfl (fun h14 => ?_) (fun h14 => ?_)
    · simp at h14
      have h11 : k < a.length := by omega
      obtain ⟨x, hx⟩ : ∃ x, a[k]? = some x := ⟨a[k], by simp⟩
      obtain ⟨y, hy⟩ : ∃ y, b[k]? = some y := ⟨b[k]'(by omega), by simp⟩
      have hrx := rowsA_at hx
      have hry := rowsA_at hy
      refine g_skip ?_
      refine g_seq ?_
      refine g_block ?_
      refine g_seq ?_
      refine g_drawL [(0, false), (1, false), (2, false), (3, false), (4, false), (5, false), (6, false), (7, false), (8, false)] (by kernel_rfl) (by kernel_rfl) rfl (by kernel_rfl) ?_
      refine d_v rfl (v_move rfl) rfl ?_
      refine d_v rfl (v_move rfl) rfl ?_
      refine d_v rfl (v_idxS k Try.underlying22 Try.sizeOf170 rfl rfl rfl h11 (by rw [rowsA_len]; exact h11)) rfl ?_
      refine d_v rfl (v_loadAS (row := encA x) Try.isAgg170 Try.sizeOf170 rfl hrx rfl) rfl ?_
      refine d_v rfl (v_move rfl) rfl ?_
      refine d_v rfl (v_move rfl) rfl ?_
      refine d_v rfl (v_idxS k Try.underlying22 Try.sizeOf170 rfl rfl rfl (by omega) (by rw [rowsA_len]; omega)) rfl ?_
      refine d_v rfl (v_loadAS (row := encA y) Try.isAgg170 Try.sizeOf170 rfl hry rfl) rfl ?_
      refine d_v rfl (v_aneq Try.eqGuardType170 rfl rfl (eq_Area x y)) rfl ?_
      refine d_nil ?_
      refine g_cond rfl (fun h25 => ?_) (fun h25 => ?_)
      · simp at h25
        refine g_seq ?_
        refine g_reg ?_
        refine g_v (v_assign rfl) rfl ?_
        refine g_nil ?_
        refine g_ret1 rfl rfl ?_
        show Bo false = _
        rw [decide_eq_false (fun e => h25 (by subst e; rw [hx] at hy; injection hy))]
      · simp at h25
        refine g_skip ?_
        refine g_blk ?_
        refine g_reg ?_
        refine g_v (v_move rfl) rfl ?_
        refine g_v (v_add rfl rfl (w64 (by omega))) rfl ?_
        refine g_v (v_assign rfl) rfl ?_
        refine g_nil ?_
        exact g_again (k + 1) ⟨by omega, take_eq_of hab hx hy h25⟩ (by omega) [0, 1, 5] rfl rfl
    · simp at h14
      obtain rfl : k = a.length := by omega
      refine g_exit rfl ?_
      refine g_seq ?_
      refine g_reg ?_
      refine g_v (v_assign rfl) rfl ?_
      refine g_nil ?_
      refine g_ret1 rfl rfl ?_
      show Bo true = _
      rw [List.take_length, show a.length = b.length by omega, List.take_length] at hab
      rw [decide_eq_true hab]

theorem ct_R_MarksOf (l : List Area) (s : Option Addr) (cap : Nat) (hl : l.length ≤ 1000000) (hv : okV l) (F : List HProp) : Ct Try.prog 24 [sl s l.length cap] ([roL 2 s (rowsA l)] ++ F) (R1 (.agg (bA (mk l))) (roL 2 s (rowsA l) :: F)) := by
  show Ct Try.prog 24 [sl s l.length cap] (roL 2 s (rowsA l) :: F) _
  refine Ct.of Try.func24 rfl 41 Try.ntmps24 (by simp) fun w0 => ?_
  refine g_seq ?_
  refine g_reg ?_
  refine g_l (l_alloc (Array.replicate 16 (Bo false)) Try.zeroValue35) rfl ?_
  rintro _ _ ⟨b2, rfl, rfl⟩
  refine g_nil ?_
  refine g_seq ?_
  refine g_reg ?_
  refine g_l (l_alloc (bA (inM l 0 0)) (fun w => by rw [inM_zero, zeroM]; exact Try.zeroValue35 w)) rfl ?_
  rintro _ _ ⟨b3, rfl, rfl⟩
  refine g_nil ?_
  refine g_seq ?_
  refine g_seq ?_
  refine g_reg ?_
  refine g_v (v_assign rfl) rfl ?_
  refine g_nil ?_
  refine g_block ?_
  refine g_loop (α := Nat) (fun k => k ≤ 16) (fun k => U [(0, sl s l.length cap), (2, ptr b2 0), (3, ptr b3 0), (4, I k)]) (fun k => pt b3 (.cells (bA (inM l k 0)) 35 (0, 0)) :: pt b2 (.cells (Array.replicate 16 (Bo false)) 35 (0, 0)) :: roL 2 s (rowsA l) :: F) (fun k => 16 - k) 0 (by simp) [0, 2, 3, 4] rfl rfl ?_
  intro k hk
  refine g_seq ?_
  refine g_seq ?_
  refine g_reg ?_
  refine g_v (v_move rfl) rfl ?_
  refine g_v (v_lss rfl rfl) rfl ?_
  refine g_nil ?_
  refine g_cond rfl (fun h7 => ?_) (fun h7 => ?_)
  · simp at h7
    have hk : k < 16 := by omega
    refine g_skip ?_
    refine g_seq ?_
    refine g_block ?_
    refine g_seq ?_
    refine g_reg ?_
    refine g_v (v_assign rfl) rfl ?_
    refine g_nil ?_
    refine g_block ?_
    refine g_loop (α := Nat) (fun i => i ≤ l.length) (fun i => U [(0, sl s l.length cap), (2, ptr b2 0), (3, ptr b3 0), (4, I k), (5, I i)]) (fun i => pt b3 (.cells (bA (inM l k i)) 35 (0, 0)) :: pt b2 (.cells (Array.replicate 16 (Bo false)) 35 (0, 0)) :: roL 2 s (rowsA l) :: F) (fun i => l.length - i) 0 (by simp) [0, 2, 3, 4, 5] rfl rfl ?_
    intro i hi
    refine g_seq ?_
    refine g_seq ?_
    refine g_reg ?_
    refine g_v (v_move rfl) rfl ?_
    refine g_v (v_move rfl) rfl ?_
    refine g_v (v_len Try.underlying22 rfl) rfl ?_
    refine g_v (v_lss rfl rfl) rfl ?_
    refine g_nil ?_
    refine g_cond rfl (fun h13 => ?_) (fun h13 => ?_)
    · simp at h13
      have hin : i < l.length := by omega
      obtain ⟨a, ha_a⟩ : ∃ a, l[i]? = some a := ⟨l[i]'(by omega), by simp⟩
      have hkn_a : i < l.length := (List.getElem?_eq_some_iff.1 ha_a).1
      have hkr_a : i < (rowsA l).length := by rw [rowsA_len]; exact hkn_a
      have hr_a := rowsA_at ha_a
      obtain ⟨hv1, hv2, hv3⟩ := hv a (List.mem_of_getElem? ha_a)
      refine g_skip ?_
      refine g_seq ?_
      refine g_block ?_
      refine g_seq ?_
      refine g_drawL [(0, false), (1, false), (2, false), (3, false), (4, false), (5, false), (6, false), (7, false), (8, false), (9, false), (10, false), (11, false), (12, false), (13, false), (14, false), (15, false), (16, false), (17, false), (18, false), (19, false), (20, false), (21, false)] (by kernel_rfl) (by kernel_rfl) rfl (by kernel_rfl) ?_
      refine d_v rfl (v_move rfl) rfl ?_
      refine d_v rfl (v_move rfl) rfl ?_
      refine d_v rfl (v_move rfl) rfl ?_
      refine d_v rfl (v_idxS _ Try.underlying22 Try.sizeOf170 rfl rfl rfl (by assumption) (by assumption)) rfl ?_
      refine d_v rfl (v_fieldAdrS (j := _) 0 Try.underlying170 rfl rfl Try.sizeOf3 (by decide) rfl (by assumption)) rfl ?_
      refine d_v rfl (v_loadS Try.isAgg3 rfl (by assumption) rfl) rfl ?_
      refine d_v rfl (v_geq rfl rfl) rfl ?_
      refine d_v rfl (v_move rfl) rfl ?_
      refine d_gv rfl rfl rfl (fun hg => v_move rfl) rfl rfl ?_
      refine d_gv rfl rfl rfl (fun hg => v_move rfl) rfl rfl ?_
      refine d_gv rfl rfl rfl (fun hg => v_move rfl) rfl rfl ?_
      refine d_gv rfl rfl rfl (fun hg => v_idxS _ Try.underlying22 Try.sizeOf170 rfl rfl rfl (by assumption) (by assumption)) rfl rfl ?_
      refine d_gv rfl rfl rfl (fun hg => v_fieldAdrS (j := _) 0 Try.underlying170 rfl rfl Try.sizeOf3 (by decide) rfl (by assumption)) rfl rfl ?_
      refine d_gv rfl rfl rfl (fun hg => v_loadS Try.isAgg3 rfl (by assumption) rfl) rfl rfl ?_
      refine d_gv rfl rfl rfl (fun hg => v_move rfl) rfl rfl ?_
      refine d_gv rfl rfl rfl (fun hg => v_move rfl) rfl rfl ?_
      refine d_gv rfl rfl rfl (fun hg => v_idxS _ Try.underlying22 Try.sizeOf170 rfl rfl rfl (by assumption) (by assumption)) rfl rfl ?_
      refine d_gv rfl rfl rfl (fun hg => v_fieldAdrS (j := _) 1 Try.underlying170 rfl rfl Try.sizeOf3 (by decide) rfl (by assumption)) rfl rfl ?_
      refine d_gv rfl rfl rfl (fun hg => v_loadS Try.isAgg3 rfl (by assumption) rfl) rfl rfl ?_
      refine d_gv rfl rfl rfl (fun hg => v_add rfl rfl (w64 (by simp at hg; omega))) rfl rfl ?_
      refine d_gv rfl rfl rfl (fun hg => v_lss rfl rfl) rfl rfl ?_
      refine d_v rfl (v_and rfl rfl) rfl ?_
      refine d_nil ?_
      refine g_cond rfl (fun h37 => ?_) (fun h37 => ?_)
      · simp at h37
        refine g_reg ?_
        refine g_v (v_move rfl) rfl ?_
        refine g_v (v_idxA k Try.underlying35 Try.sizeOf4 rfl rfl rfl hk) rfl ?_
        refine g_l0 (l_store (bA (inM l k (i + 1))) Try.sizeOf4 rfl rfl rfl (by simp [bA, bL]; omega) (by rw [bA_set hk, inM_hit ha_a h37])) ?_
        rintro _ _ rfl
        refine g_nil ?_
        refine g_blk ?_
        refine g_reg ?_
        refine g_v (v_move rfl) rfl ?_
        refine g_v (v_add rfl rfl (w64 (by omega))) rfl ?_
        refine g_v (v_assign rfl) rfl ?_
        refine g_nil ?_
        exact g_again (i + 1) (by omega) (by omega) [0, 2, 3, 4, 5] rfl rfl
      · simp at h37
        refine g_skip ?_
        refine g_blk ?_
        refine g_reg ?_
        refine g_v (v_move rfl) rfl ?_
        refine g_v (v_add rfl rfl (w64 (by omega))) rfl ?_
        refine g_v (v_assign rfl) rfl ?_
        refine g_nil ?_
        rw [inM_miss ha_a (by omega)]
        exact g_again (i + 1) (by omega) (by omega) [0, 2, 3, 4, 5] rfl rfl
    · simp at h13
      obtain rfl : i = l.length := by omega
      rw [inM_next]
      refine g_exit rfl ?_
      refine g_blk ?_
      refine g_reg ?_
      refine g_v (v_move rfl) rfl ?_
      refine g_v (v_add rfl rfl (w64 (by omega))) rfl ?_
      refine g_v (v_assign rfl) rfl ?_
      refine g_nil ?_
      exact g_again (k + 1) (by omega) (by omega) [0, 2, 3, 4] rfl rfl
  · simp at h7
    obtain rfl : k = 16 := by omega
    refine g_exit rfl ?_
    refine g_seq ?_
    refine g_reg ?_
    refine g_v (v_loadA (vs := bL (inM l 16 0)) Try.isAgg35 Try.sizeOf35 rfl (bL_len _) bA_load) rfl ?_
    refine g_l0 (l_storeA (bA (inM l 16 0)) Try.sizeOf35 rfl rfl (bL_len _) (bL_ones _) (by simp) (splice_all (by simp [bL]))) ?_
    rintro _ _ rfl
    refine g_nil ?_
    rw [← inM_all l]
    exact g_retCA (bL (inM l 16 0)) rfl rfl rfl Try.isAgg35 Try.sizeOf35 (bL_len _) bA_load

end Go.Proofs.Ythdjckbjjfiopaa
