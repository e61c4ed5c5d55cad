/- Walks through the law functions that ask whether arguments are light: actions. No condition. -/
import Derived.Test.YthdjckbjjfiopacGreatDoorPartA
namespace Go.Proofs.YthdjckbjjfiopacGreatDoor
open Go.Sl Go.Proofs
set_option linter.unusedVariables false
set_option linter.unusedSimpArgs false
def lightP (p : PutM) : Bool := decide (p.data.length ≤ 20)
def lightA1 (x : ActM) : Bool := (decide (x.s.length ≤ 100) && decide (x.puts.length ≤ 24) && lightC x.changes 90) && x.puts.all lightP
def lightA (l : List ActM) (most : Int) : Bool := decide ((l.length : Int) ≤ most) && l.all lightA1

theorem ct_L_LightActs (l : List ActM) (f : Nat → ActZ) (s : Option Addr) (cap : Nat) (most : Int) (hl : l.length ≤ 9223372036854775807) (hls : ∀ x ∈ l, x.puts.length ≤ 9223372036854775807 ∧ x.changes.length ≤ 9223372036854775807) (F : List HProp) : Ct Tryz.prog 39 [sl s l.length cap, I most] ([acts s l f] ++ F) (R1 (Bo (lightA l most)) (acts s l f :: F)) := by
  show Ct Tryz.prog 39 [sl s l.length cap, I most] (acts s l f :: F) _
  refine Ct.of Tryz.func39 rfl 63 Tryz.ntmps39 (by simp) fun w0 => ?_
  refine g_seq ?_
  refine g_reg ?_
  refine g_v (v_assign rfl) rfl ?_
  refine g_nil ?_
  refine g_seq ?_
  refine g_seq ?_
  refine g_reg ?_
  refine g_v (v_move rfl) rfl ?_
  refine g_v (v_len Tryz.underlying22 rfl) rfl ?_
  refine g_v (v_move rfl) rfl ?_
  refine g_v (v_gtr rfl rfl) rfl ?_
  refine g_nil ?_
  refine g_cond rfl (fun h10 => ?_) (fun h10 => ?_)
  · simp at h10
    refine g_seq ?_
    refine g_reg ?_
    refine g_v (v_assign rfl) rfl ?_
    refine g_nil ?_
    refine g_ret1 rfl rfl ?_
    show Bo false = _
    rw [show lightA l most = false by unfold lightA; rw [decide_eq_false (by omega)]; rfl]
  · simp at h10
    refine g_skip ?_
    refine g_seq ?_
    refine g_seq ?_
    refine g_reg ?_
    refine g_v (v_assign rfl) rfl ?_
    refine g_nil ?_
    refine g_block ?_
    refine g_loop (α := Nat) (fun k => k ≤ l.length ∧ (l.take k).all lightA1 = true) (fun k => U [(0, sl s l.length cap), (5, I k)]) (fun _ => acts s l f :: F) (fun k => l.length - k) 0 (by simp) [0, 5] rfl rfl ?_
    rintro k ⟨hk, hall⟩
    refine g_seq ?_
    refine g_seq ?_
    refine g_reg ?_
    refine g_v (v_move rfl) rfl ?_
    refine g_v (v_move rfl) rfl ?_
    refine g_v (v_len Tryz.underlying22 rfl) rfl ?_
    refine g_v (v_lss rfl rfl) rfl ?_
    refine g_nil ?_
    refine g_cond rfl (fun h14 => ?_) (fun h14 => ?_)
    · simp at h14
      have hkn : k < l.length := by omega
      obtain ⟨x, hx⟩ : ∃ x, l[k]? = some x := ⟨_, List.getElem?_eq_getElem hkn⟩
      have hkr : k < (actR l f).length := by rw [actR_len]; exact hkn
      have hb := hls x (List.mem_of_getElem? hx)
      refine g_skip ?_
      refine g_seq ?_
      refine g_block ?_
      refine g_seq ?_
      refine g_seq ?_
      refine g_actChanges s l f k hx ?_
      refine g_reg ?_
      refine g_v (v_move rfl) rfl ?_
      refine g_v (v_move rfl) rfl ?_
      refine g_v (v_idxS k Tryz.underlying22 Tryz.sizeOf86 rfl rfl rfl hkn hkr) rfl ?_
      refine g_v (v_fieldAdrS (j := k) 1 Tryz.underlying86 rfl rfl Tryz.sizeOf9 (by decide) rfl hkr) rfl ?_
      refine g_v (v_loadS (v := Str x.s) Tryz.isAgg9 rfl (actR_at hx) rfl) rfl ?_
      refine g_v (v_slen Tryz.underlying9 rfl) rfl ?_
      refine g_v (v_gtr rfl rfl) rfl ?_
      refine g_v (v_move rfl) rfl ?_
      refine g_gv rfl rfl (fun hg => v_move rfl) rfl rfl ?_
      refine g_gv rfl rfl (fun hg => v_move rfl) rfl rfl ?_
      refine g_gv rfl rfl (fun hg => v_idxS k Tryz.underlying22 Tryz.sizeOf86 rfl rfl rfl hkn hkr) rfl rfl ?_
      refine g_gv rfl rfl (fun hg => v_fieldAdrS (j := k) 7 Tryz.underlying86 rfl rfl Tryz.sizeOf82 (by decide) rfl hkr) rfl rfl ?_
      refine g_gv rfl rfl (fun hg => v_loadS (v := sl (f k).1.1 x.puts.length (f k).1.2) Tryz.isAgg82 rfl (actR_at hx) rfl) rfl rfl ?_
      refine g_gv rfl rfl (fun hg => v_len Tryz.underlying82 rfl) rfl rfl ?_
      refine g_gv rfl rfl (fun hg => v_gtr rfl rfl) rfl rfl ?_
      refine g_v (v_or rfl rfl) rfl ?_
      refine g_v (v_move rfl) rfl ?_
      refine g_gv rfl rfl (fun hg => v_move rfl) rfl rfl ?_
      refine g_gv rfl rfl (fun hg => v_move rfl) rfl rfl ?_
      refine g_gv rfl rfl (fun hg => v_idxS k Tryz.underlying22 Tryz.sizeOf86 rfl rfl rfl hkn hkr) rfl rfl ?_
      refine g_gv rfl rfl (fun hg => v_fieldAdrS (j := k) 8 Tryz.underlying86 rfl rfl Tryz.sizeOf33 (by decide) rfl hkr) rfl rfl ?_
      refine g_gv rfl rfl (fun hg => v_loadS (v := sl (f k).2.1 x.changes.length (f k).2.2) Tryz.isAgg33 rfl (actR_at hx) rfl) rfl rfl ?_
      refine g_gq rfl rfl (fun hg => l_call (Pre := [roL 3 (f k).2.1 (chR x.changes)]) (R := fun F => R1 (Bo (lightC x.changes 90)) (roL 3 (f k).2.1 (chR x.changes) :: F)) Tryz.call23 rfl (ct_L_LightChanges x.changes (f k).2.1 (f k).2.2 90 hb.2)) rfl rfl ?_
      refine g_gv rfl rfl (fun hg => v_not rfl) rfl rfl ?_
      refine g_v (v_or rfl rfl) rfl ?_
      refine g_nil ?_
      refine g_cond rfl (fun h41 => ?_) (fun h41 => ?_)
      · simp at h41
        refine g_seq ?_
        refine g_reg ?_
        refine g_v (v_assign rfl) rfl ?_
        refine g_nil ?_
        refine g_ret1 rfl rfl ?_
        show Bo false = _
        rw [show lightA l most = false by unfold lightA; rw [all_miss hx (by unfold lightA1; by_cases hq : lightC x.changes 90 = true <;> simp [hq] at h41 ⊢; intro h1 h2; omega)]; simp]
      · simp at h41
        have hlc : lightC x.changes 90 = true := h41.2
        refine g_skip ?_
        refine g_seq ?_
        refine g_actPuts s l f k hx ?_
        refine g_reg ?_
        refine g_v (v_assign rfl) rfl ?_
        refine g_nil ?_
        refine g_block ?_
        refine g_loop (α := Nat) (fun j => j ≤ x.puts.length ∧ (x.puts.take j).all lightP = true) (fun j => U [(0, sl s l.length cap), (5, I k), (6, I j)]) (fun _ => roL 2 (f k).1.1 (putR x.puts) :: acts s l f :: F) (fun j => x.puts.length - j) 0 (by simp) [0, 5, 6] rfl rfl ?_
        rintro j ⟨hj, hpall⟩
        refine g_seq ?_
        refine g_seq ?_
        refine g_reg ?_
        refine g_v (v_move rfl) rfl ?_
        refine g_v (v_move rfl) rfl ?_
        refine g_v (v_move rfl) rfl ?_
        refine g_v (v_idxS k Tryz.underlying22 Tryz.sizeOf86 rfl rfl rfl hkn hkr) rfl ?_
        refine g_v (v_fieldAdrS (j := k) 7 Tryz.underlying86 rfl rfl Tryz.sizeOf82 (by decide) rfl hkr) rfl ?_
        refine g_v (v_loadS (v := sl (f k).1.1 x.puts.length (f k).1.2) Tryz.isAgg82 rfl (actR_at hx) rfl) rfl ?_
        refine g_v (v_len Tryz.underlying82 rfl) rfl ?_
        refine g_v (v_lss rfl rfl) rfl ?_
        refine g_nil ?_
        refine g_cond rfl (fun h49 => ?_) (fun h49 => ?_)
        · simp at h49
          have hjn : j < x.puts.length := by omega
          obtain ⟨p, hp⟩ : ∃ p, x.puts[j]? = some p := ⟨_, List.getElem?_eq_getElem hjn⟩
          have hjr : j < (putR x.puts).length := by rw [putR_len]; exact hjn
          refine g_skip ?_
          refine g_seq ?_
          refine g_block ?_
          refine g_seq ?_
          refine g_reg ?_
          refine g_v (v_move rfl) rfl ?_
          refine g_v (v_move rfl) rfl ?_
          refine g_v (v_idxS k Tryz.underlying22 Tryz.sizeOf86 rfl rfl rfl hkn hkr) rfl ?_
          refine g_v (v_fieldAdrS (j := k) 7 Tryz.underlying86 rfl rfl Tryz.sizeOf82 (by decide) rfl hkr) rfl ?_
          refine g_v (v_loadS (v := sl (f k).1.1 x.puts.length (f k).1.2) Tryz.isAgg82 rfl (actR_at hx) rfl) rfl ?_
          refine g_v (v_move rfl) rfl ?_
          refine g_v (v_idxS j Tryz.underlying82 Tryz.sizeOf81 rfl rfl rfl hjn hjr) rfl ?_
          refine g_v (v_fieldAdrS (j := j) 1 Tryz.underlying81 rfl rfl Tryz.sizeOf9 (by decide) rfl hjr) rfl ?_
          refine g_v (v_loadS (v := Str p.data) Tryz.isAgg9 rfl (putR_at hp) rfl) rfl ?_
          refine g_v (v_slen Tryz.underlying9 rfl) rfl ?_
          refine g_v (v_gtr rfl rfl) rfl ?_
          refine g_nil ?_
          refine g_cond rfl (fun h62 => ?_) (fun h62 => ?_)
          · simp at h62
            refine g_seq ?_
            refine g_reg ?_
            refine g_v (v_assign rfl) rfl ?_
            refine g_nil ?_
            refine g_ret1 rfl rfl ?_
            show Bo false = _
            rw [show lightA l most = false by unfold lightA; rw [all_miss hx (by unfold lightA1; rw [all_miss hp (by simp [lightP]; omega)]; simp)]; simp]
          · simp at h62
            refine g_skip ?_
            refine g_blk ?_
            refine g_reg ?_
            refine g_v (v_move rfl) rfl ?_
            refine g_v (v_add rfl rfl (w64 (by omega))) rfl ?_
            refine g_v (v_assign rfl) rfl ?_
            refine g_nil ?_
            exact g_again (j + 1) ⟨by omega, take_all hpall hp (by simp [lightP]; omega)⟩ (by omega) [0, 5, 6] rfl rfl
        · simp at h49
          obtain rfl : j = x.puts.length := by omega
          rw [List.take_length] at hpall
          refine g_exit rfl ?_
          refine g_blk ?_
          refine g_reg ?_
          refine g_v (v_move rfl) rfl ?_
          refine g_v (v_add rfl rfl (w64 (by omega))) rfl ?_
          refine g_v (v_assign rfl) rfl ?_
          refine g_nil ?_
          exact g_again (k + 1) ⟨by omega, take_all hall hx (by unfold lightA1; rw [hlc, hpall]; simp; omega)⟩ (by omega) [0, 5] rfl rfl
    · simp at h14
      obtain rfl : k = l.length := by omega
      rw [List.take_length] at hall
      refine g_exit rfl ?_
      refine g_seq ?_
      refine g_reg ?_
      refine g_v (v_assign rfl) rfl ?_
      refine g_nil ?_
      refine g_ret1 rfl rfl ?_
      show Bo true = _
      rw [show lightA l most = true by unfold lightA; rw [hall, decide_eq_true (by omega)]; rfl]

end Go.Proofs.YthdjckbjjfiopacGreatDoor
