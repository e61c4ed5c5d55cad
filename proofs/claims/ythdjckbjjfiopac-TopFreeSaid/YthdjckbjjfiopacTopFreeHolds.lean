/- The statement TopFree: whatever the input, the law returns true, and the arguments read as before. No condition. -/
import Derived.Test.YthdjckbjjfiopacOpenI
import Derived.Test.YthdjckbjjfiopacTopFree
namespace Go.Proofs.Ythdjckbjjfiopac.topFree
open Go.Sl Go.Proofs Go.ChangeShapes Go.WideShapes Go.ChangeAt Go.RowKit
set_option linter.unusedVariables false

theorem walk (l : List ActM) (f : Nat → ActZ) (s : Option Addr) (cap : Nat) (ord : List Int) (so : Option Addr) (capo : Nat) (W : World) (hl : OldActs W s l f) (hol : ∀ x ∈ l, actOkW x) (hnl : l.length ≤ maxLen) (hord : OldRows W so 1 (intR ord)) (hoord : ∀ x ∈ ord, ok64 x) (hnord : ord.length ≤ maxLen) :
    Calls Try.prog 6 #[sl s l.length cap, sl so ord.length capo] W fun e w' => e = .returned (.bool true) ∧ Below W.heap.size W w' := by
  have g0 := hl.sat (Sat.start W)
  have g1 := hord.sat (g0.pick [1, 0] (L' := [old W, acts s l f]) rfl (by decide))
  have hh : Sat W W ([acts s l f, roL 1 so (intR ord)] ++ [old W]) := (g1).pick [2, 0, 1] rfl (by decide)
  exact law_of hh (ct_T_TopFree l f s cap ord so capo (Nat.le_trans hnl (by decide)) (fun x hx => have h := hol x hx; ⟨Nat.le_trans h.2.2.2.2.2.2.1.1 (by decide), Nat.le_trans h.2.2.2.2.2.2.2.1 (by decide)⟩) (Nat.le_trans hnord (by decide)))

set_option maxRecDepth 100000 in
theorem lifted (os : Os) (started : os.Started) (H : Type) (enc : TypeId × Value → H) :
    ReturnsInHanded {} Try.checked os 6 .any (Rows.topFreeSpec.pre6 enc Try.prog Try.f6 Rows.topFreeRow.domain false) (Rows.topFreeSpec.post enc Try.prog Try.f6 false true false false) := by
  refine returnsInHanded_of_change (C := Try.checked) own started (by kernel_rfl) Try.func6
    (ChangeSpec.witness6 (enc := enc) (C := Try.checked) false ⟨#[], #[.slice none 0 0, .slice none 0 0], []⟩ 8 (by kernel_rfl) (by kernel_rfl) (by kernel_rfl) (by kernel_rfl)) ?_
  intro W base args ds gs before hval0 hW hcnd _
  have hval : ∀ (j : Nat) t v, Try.f6.params[j]? = some t → args[j]? = some v → Value.okWide Try.prog W .any base t v := hval0
  have hW' := hW
  obtain ⟨p, q, hA0, hV, rfl, hfz, hnd⟩ := hW
  have hA : DataW.TrodAll enc Try.prog W 0 (fun _ => true) true Try.f6.params.toList args.toList ds p := hA0
  rw [Try.params6] at hA hval
  obtain ⟨v0, vs0, d0, ds0, p0, q0, hargs, rfl, rfl, h0, r0⟩ := trodAll_cons hA
  obtain ⟨v1, vs1, d1, ds1, p1, q1, rfl, rfl, rfl, h1, r1⟩ := trodAll_cons r0
  obtain ⟨rfl, rfl, rfl⟩ := trodAll_nil r1
  obtain rfl : args = #[v0, v1] := by cases args; simp_all
  obtain ⟨rfl, rfl⟩ := trodVars_none hV
  have k0 := h0
  have lt0 : ∀ x ∈ p0, x.block < W.heap.size := by obtain ⟨m, hm⟩ := k0; exact DataW.trod_lt m _ _ _ hm
  have k1 := h1
  have lt1 : ∀ x ∈ p1, x.block < W.heap.size := by obtain ⟨m, hm⟩ := k1; exact DataW.trod_lt m _ _ _ hm
  obtain ⟨s, l, f, cap, rfl, hl, hol, hnl⟩ := open_acts (okWide_slice Try.underlying22 (hval 0 22 v0 rfl rfl)) h0
  obtain ⟨so, ord, capo, rfl, hord, hoord, hnord⟩ := open_ints (okWide_slice Try.underlying45 (hval 1 45 v1 rfl rfl)) h1
  clear hA0 hval0
  refine (walk l f s cap ord so capo W hl hol hnl hord hoord hnord).mono fun e W' ⟨he, bel⟩ => ?_
  subst he
  exact ⟨_, rfl, _, _, _, [], _, [], hW', trodAll_mk1 (shut_bool Try.underlying4 _), (trodAll_cons_mk (Below.trod laidOut (by kernel_rfl) (of_decide_eq_true (by kernel_rfl)) k0 bel lt0) (trodAll_cons_mk (Below.trod laidOut (by kernel_rfl) (of_decide_eq_true (by kernel_rfl)) k1 bel lt1) trodAll_mk0)), rfl, bel.frame _, fun h => by cases h⟩

theorem over : Rows.topFreeRow.holds Try.pinned (OpenSpec.ofChange Rows.topFreeSpec) :=
  OpenClaim.holds_of_wide 6 Try.f6 rfl rfl rfl rfl rfl rfl rfl ⟨rfl, rfl, rfl, rfl, rfl⟩ rfl rfl rfl rfl rfl (by kernel_rfl) Try.func6 (by kernel_rfl)
    (of_decide_eq_true (by kernel_rfl)) (by unfold Func.isWrapper; first | (rw [if_pos (by decide +kernel)]; kernel_rfl) | (rw [if_neg (by decide +kernel)]; exact ⟨rfl, rfl⟩))
    (fun os started H enc _ => lifted os started H enc)
theorem proved : Rows.TopFreeSaid := over
#print axioms proved
end Go.Proofs.Ythdjckbjjfiopac.topFree
