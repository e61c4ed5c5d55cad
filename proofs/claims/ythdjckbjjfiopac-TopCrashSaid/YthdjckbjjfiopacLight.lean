/- Walks through the law functions that ask whether arguments are light: changes. No condition. -/
import Derived.Test.YthdjckbjjfiopacSlB
import Derived.Test.YthdjckbjjfiopacLib1
namespace Go.Proofs.Ythdjckbjjfiopac
open Go.Sl Go.Proofs
set_option linter.unusedVariables false
set_option linter.unusedSimpArgs false
structure ChangeM where
  key : Bytes
  val : Bytes
  gone : Bool
  deriving DecidableEq
def encC (c : ChangeM) : List Value := [Str c.key, Str c.val, Bo c.gone]
def chR (l : List ChangeM) : List (List Value) := l.map encC
theorem chR_len (l : List ChangeM) : (chR l).length = l.length := by simp [chR]
theorem chR_at {l : List ChangeM} {k : Nat} {c : ChangeM} (h : l[k]? = some c) : (chR l)[k]? = some (encC c) := by simp [chR, h]
def lightC1 (c : ChangeM) : Bool := decide (c.key.length ≤ 20) && decide (c.val.length ≤ 60)
def lightC (l : List ChangeM) (most : Int) : Bool := decide ((l.length : Int) ≤ most) && l.all lightC1
theorem take_all {α : Type} {p : α → Bool} {l : List α} {k : Nat} {a : α} (h : (l.take k).all p = true) (ha : l[k]? = some a) (hp : p a = true) : (l.take (k + 1)).all p = true := by
  obtain ⟨h1, h2⟩ := List.getElem?_eq_some_iff.1 ha
  rw [List.take_succ_eq_append_getElem h1, List.all_append, h, h2]
  simp [hp]
theorem all_miss {α : Type} {p : α → Bool} {l : List α} {k : Nat} {a : α} (ha : l[k]? = some a) (hp : p a = false) : l.all p = false := by
  rw [List.all_eq_false]
  exact ⟨a, List.mem_of_getElem? ha, by simp [hp]⟩

theorem ct_L_LightChanges (l : List ChangeM) (s : Option Addr) (cap : Nat) (most : Int) (hl : l.length ≤ 9223372036854775807) (F : List HProp) : Ct Try.prog 49 [sl s l.length cap, I most] ([roL 3 s (chR l)] ++ F) (R1 (Bo (lightC l most)) (roL 3 s (chR l) :: F)) := by
  show Ct Try.prog 49 [sl s l.length cap, I most] (roL 3 s (chR l) :: F) _
  refine Ct.of Try.func49 rfl 32 Try.ntmps49 (by simp) fun w0 => ?_
  refine g_seq ?_
  refine g_reg ?_
  refine g_v (v_assign rfl) rfl ?_
  refine g_nil ?_
  refine g_seq ?_
  refine g_seq ?_
  refine g_reg ?_
  refine g_v (v_move rfl) rfl ?_
  refine g_v (v_len Try.underlying49 rfl) rfl ?_
  refine g_v (v_move rfl) rfl ?_
  refine g_v (v_gtr rfl rfl) rfl ?_
  refine g_nil ?_
  refine g_cond rfl (fun h9 => ?_) (fun h9 => ?_)
  · simp at h9
    refine g_seq ?_
    refine g_reg ?_
    refine g_v (v_assign rfl) rfl ?_
    refine g_nil ?_
    refine g_ret1 rfl rfl ?_
    show Bo false = _
    rw [show lightC l most = false by unfold lightC; rw [decide_eq_false (by omega)]; rfl]
  · simp at h9
    refine g_skip ?_
    refine g_seq ?_
    refine g_seq ?_
    refine g_reg ?_
    refine g_v (v_assign rfl) rfl ?_
    refine g_nil ?_
    refine g_block ?_
    refine g_loop (α := Nat) (fun k => k ≤ l.length ∧ (l.take k).all lightC1 = true) (fun k => U [(0, sl s l.length cap), (5, I k)]) (fun _ => roL 3 s (chR l) :: F) (fun k => l.length - k) 0 (by simp) [0, 5] rfl rfl ?_
    rintro k ⟨hk, hall⟩
    refine g_seq ?_
    refine g_seq ?_
    refine g_reg ?_
    refine g_v (v_move rfl) rfl ?_
    refine g_v (v_move rfl) rfl ?_
    refine g_v (v_len Try.underlying49 rfl) rfl ?_
    refine g_v (v_lss rfl rfl) rfl ?_
    refine g_nil ?_
    refine g_cond rfl (fun h13 => ?_) (fun h13 => ?_)
    · simp at h13
      have hkn : k < l.length := by omega
      obtain ⟨c, hc⟩ : ∃ c, l[k]? = some c := ⟨_, List.getElem?_eq_getElem hkn⟩
      have hkr : k < (chR l).length := by rw [chR_len]; exact hkn
      refine g_skip ?_
      refine g_seq ?_
      refine g_block ?_
      refine g_seq ?_
      refine g_reg ?_
      refine g_v (v_move rfl) rfl ?_
      refine g_v (v_move rfl) rfl ?_
      refine g_v (v_idxS k Try.underlying49 Try.sizeOf111 rfl rfl rfl hkn hkr) rfl ?_
      refine g_v (v_fieldAdrS (j := k) 0 Try.underlying111 rfl rfl Try.sizeOf9 (by decide) rfl hkr) rfl ?_
      refine g_v (v_loadS (v := Str c.key) Try.isAgg9 rfl (chR_at hc) rfl) rfl ?_
      refine g_v (v_slen Try.underlying9 rfl) rfl ?_
      refine g_v (v_gtr rfl rfl) rfl ?_
      refine g_v (v_move rfl) rfl ?_
      refine g_gv rfl rfl (fun hg => v_move rfl) rfl rfl ?_
      refine g_gv rfl rfl (fun hg => v_move rfl) rfl rfl ?_
      refine g_gv rfl rfl (fun hg => v_idxS k Try.underlying49 Try.sizeOf111 rfl rfl rfl hkn hkr) rfl rfl ?_
      refine g_gv rfl rfl (fun hg => v_fieldAdrS (j := k) 1 Try.underlying111 rfl rfl Try.sizeOf9 (by decide) rfl hkr) rfl rfl ?_
      refine g_gv rfl rfl (fun hg => v_loadS (v := Str c.val) Try.isAgg9 rfl (chR_at hc) rfl) rfl rfl ?_
      refine g_gv rfl rfl (fun hg => v_slen Try.underlying9 rfl) rfl rfl ?_
      refine g_gv rfl rfl (fun hg => v_gtr rfl rfl) rfl rfl ?_
      refine g_v (v_or rfl rfl) rfl ?_
      refine g_nil ?_
      refine g_cond rfl (fun h31 => ?_) (fun h31 => ?_)
      · simp at h31
        refine g_seq ?_
        refine g_reg ?_
        refine g_v (v_assign rfl) rfl ?_
        refine g_nil ?_
        refine g_ret1 rfl rfl ?_
        show Bo false = _
        rw [show lightC l most = false by unfold lightC; rw [all_miss hc (by simp [lightC1]; omega)]; simp]
      · simp at h31
        refine g_skip ?_
        refine g_blk ?_
        refine g_reg ?_
        refine g_v (v_move rfl) rfl ?_
        refine g_v (v_add rfl rfl (w64 (by omega))) rfl ?_
        refine g_v (v_assign rfl) rfl ?_
        refine g_nil ?_
        exact g_again (k + 1) ⟨by omega, take_all hall hc (by simp [lightC1]; omega)⟩ (by omega) [0, 5] rfl rfl
    · simp at h13
      obtain rfl : k = l.length := by omega
      rw [List.take_length] at hall
      refine g_exit rfl ?_
      refine g_seq ?_
      refine g_reg ?_
      refine g_v (v_assign rfl) rfl ?_
      refine g_nil ?_
      refine g_ret1 rfl rfl ?_
      show Bo true = _
      rw [show lightC l most = true by unfold lightC; rw [hall, decide_eq_true (by omega)]; rfl]

end Go.Proofs.Ythdjckbjjfiopac
