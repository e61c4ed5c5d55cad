/- The statement RowSays: whatever the input, the law returns true, and the arguments read as before. No condition. -/
import Derived.Test.YthdjckbjjfiopaaOpenA
import Derived.Test.YthdjckbjjfiopaaRowSays
namespace Go.Proofs.Ythdjckbjjfiopaa.rowSays
open Go.Sl Go.Proofs Go.ChangeShapes Go.WideShapes Go.ChangeAt Go.RowKit
set_option linter.unusedVariables false

theorem walk (l : List ChangeM) (s : Option Addr) (cap : Nat) (cs : List ChangeM) (s' : Option Addr) (cap' : Nat) (c : ChangeM) (t : Bytes) (W : World) (hl : OldRows W s 3 (chR l)) (hol : ∀ x ∈ l, chOk x) (hnl : l.length ≤ maxLen) (hcs : OldRows W s' 3 (chR cs)) (hocs : ∀ x ∈ cs, chOk x) (hncs : cs.length ≤ maxLen) (ht : t.length ≤ maxLen) :
    Calls Try.prog 6 #[sl s l.length cap, sl s' cs.length cap', .agg (encC c).toArray, Str t] W fun e w' => e = .returned (.bool true) ∧ Below W.heap.size W w' := by
  have g0 := hl.sat (Sat.start W)
  have g1 := hcs.sat (g0.pick [1, 0] (L' := [old W, roL 3 s (chR l)]) rfl (by decide))
  have hh : Sat W W ([roL 3 s (chR l), roL 3 s' (chR cs)] ++ [old W]) := (g1).pick [2, 0, 1] rfl (by decide)
  exact law_of hh (ct_L_RowSays l cs c t s s' cap cap' (Nat.le_trans hnl (by decide)) (Nat.le_trans hncs (by decide)))

set_option maxRecDepth 100000 in
theorem lifted (os : Os) (started : os.Started) (H : Type) (enc : TypeId × Value → H) :
    ReturnsInHanded {} Try.checked os 6 .any (Rows.rowSaysSpec.pre6 enc Try.prog Try.f6 Rows.rowSaysRow.domain false) (Rows.rowSaysSpec.post enc Try.prog Try.f6 false true false false) := by
  refine returnsInHanded_of_change (C := Try.checked) own started (by kernel_rfl) Try.func6
    (ChangeSpec.witness6 (enc := enc) (C := Try.checked) false ⟨#[], #[.slice none 0 0, .slice none 0 0, .agg #[.string ⟨#[]⟩, .string ⟨#[]⟩, .bool false], .string ⟨#[]⟩], []⟩ 8 (by kernel_rfl) (by kernel_rfl) (by kernel_rfl) (by kernel_rfl)) ?_
  intro W base args ds gs before hval0 hW hcnd _
  have hval : ∀ (j : Nat) t v, Try.f6.params[j]? = some t → args[j]? = some v → Value.okWide Try.prog W .any base t v := hval0
  have hW' := hW
  obtain ⟨p, q, hA0, hV, rfl, hfz, hnd⟩ := hW
  have hA : DataW.TrodAll enc Try.prog W 0 (fun _ => true) true Try.f6.params.toList args.toList ds p := hA0
  rw [Try.params6] at hA hval
  obtain ⟨v0, vs0, d0, ds0, p0, q0, hargs, rfl, rfl, h0, r0⟩ := trodAll_cons hA
  obtain ⟨v1, vs1, d1, ds1, p1, q1, rfl, rfl, rfl, h1, r1⟩ := trodAll_cons r0
  obtain ⟨v2, vs2, d2, ds2, p2, q2, rfl, rfl, rfl, h2, r2⟩ := trodAll_cons r1
  obtain ⟨v3, vs3, d3, ds3, p3, q3, rfl, rfl, rfl, h3, r3⟩ := trodAll_cons r2
  obtain ⟨rfl, rfl, rfl⟩ := trodAll_nil r3
  obtain rfl : args = #[v0, v1, v2, v3] := by cases args; simp_all
  obtain ⟨rfl, rfl⟩ := trodVars_none hV
  have k0 := h0
  have lt0 : ∀ x ∈ p0, x.block < W.heap.size := by obtain ⟨m, hm⟩ := k0; exact DataW.trod_lt m _ _ _ hm
  have k1 := h1
  have lt1 : ∀ x ∈ p1, x.block < W.heap.size := by obtain ⟨m, hm⟩ := k1; exact DataW.trod_lt m _ _ _ hm
  have k2 := h2
  have lt2 : ∀ x ∈ p2, x.block < W.heap.size := by obtain ⟨m, hm⟩ := k2; exact DataW.trod_lt m _ _ _ hm
  have k3 := h3
  have lt3 : ∀ x ∈ p3, x.block < W.heap.size := by obtain ⟨m, hm⟩ := k3; exact DataW.trod_lt m _ _ _ hm
  obtain ⟨s, l, cap, rfl, hl, hol, hnl⟩ := open_changes (okWide_slice Try.underlying50 (hval 0 50 v0 rfl rfl)) h0
  obtain ⟨s', cs, cap', rfl, hcs, hocs, hncs⟩ := open_changes (okWide_slice Try.underlying50 (hval 1 50 v1 rfl rfl)) h1
  obtain ⟨c, rfl, hc⟩ := open_change (okWide_struct Try.underlying95 (hval 2 95 v2 rfl rfl)) h2
  obtain ⟨t, rfl, ht⟩ := open_str (okWide_string Try.underlying9 (hval 3 9 v3 rfl rfl)) h3
  clear hA0 hval0
  refine (walk l s cap cs s' cap' c t W hl hol hnl hcs hocs hncs ht).mono fun e W' ⟨he, bel⟩ => ?_
  subst he
  exact ⟨_, rfl, _, _, _, [], _, [], hW', trodAll_mk1 (shut_bool Try.underlying4 _), (trodAll_cons_mk (Below.trod laidOut (by kernel_rfl) (of_decide_eq_true (by kernel_rfl)) k0 bel lt0) (trodAll_cons_mk (Below.trod laidOut (by kernel_rfl) (of_decide_eq_true (by kernel_rfl)) k1 bel lt1) (trodAll_cons_mk (Below.trod laidOut (by kernel_rfl) (of_decide_eq_true (by kernel_rfl)) k2 bel lt2) (trodAll_cons_mk (Below.trod laidOut (by kernel_rfl) (of_decide_eq_true (by kernel_rfl)) k3 bel lt3) trodAll_mk0)))), rfl, bel.frame _, fun h => by cases h⟩

theorem over : Rows.rowSaysRow.holds Try.pinned (OpenSpec.ofChange Rows.rowSaysSpec) :=
  OpenClaim.holds_of_wide 6 Try.f6 rfl rfl rfl rfl rfl rfl rfl ⟨rfl, rfl, rfl, rfl, rfl⟩ rfl rfl rfl rfl rfl (by kernel_rfl) Try.func6 (by kernel_rfl)
    (of_decide_eq_true (by kernel_rfl)) (by unfold Func.isWrapper; first | (rw [if_pos (by decide +kernel)]; kernel_rfl) | (rw [if_neg (by decide +kernel)]; exact ⟨rfl, rfl⟩))
    (fun os started H enc _ => lifted os started H enc)
theorem proved : Rows.RowSaysSaid := over
#print axioms proved
end Go.Proofs.Ythdjckbjjfiopaa.rowSays
