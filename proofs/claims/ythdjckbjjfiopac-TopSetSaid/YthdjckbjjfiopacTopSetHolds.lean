/- The statement TopSet: whatever the input, the law returns true, and the arguments read as before. No condition. -/
import Derived.Test.YthdjckbjjfiopacOpenA
import Derived.Test.YthdjckbjjfiopacTopSet
namespace Go.Proofs.Ythdjckbjjfiopac.topSet
open Go.Sl Go.Proofs Go.ChangeShapes Go.WideShapes Go.ChangeAt Go.RowKit
set_option linter.unusedVariables false

theorem walk (l : List ActM) (f : Nat → ActZ) (s : Option Addr) (cap : Nat) (which : Int) (ati : Int) (data : Bytes) (W : World) (hl : OldActs W s l f) (hol : ∀ x ∈ l, actOkW x) (hnl : l.length ≤ maxLen) (hwhich : ok64 which) (hati : ok64 ati) (hdata : data.length ≤ maxLen) :
    Calls Try.prog 5 #[sl s l.length cap, I which, I ati, Str data] W fun e w' => e = .returned (.bool true) ∧ Below W.heap.size W w' := by
  have g0 := hl.sat (Sat.start W)
  have hh : Sat W W ([acts s l f] ++ [old W]) := (g0).pick [0, 1] rfl (by decide)
  exact law_of hh (ct_T_TopSet l f s cap which ati data (Nat.le_trans hnl (by decide)) (fun x hx => have h := hol x hx; ⟨Nat.le_trans h.2.2.2.2.2.2.1.1 (by decide), Nat.le_trans h.2.2.2.2.2.2.2.1 (by decide)⟩))

set_option maxRecDepth 100000 in
theorem lifted (os : Os) (started : os.Started) (H : Type) (enc : TypeId × Value → H) :
    ReturnsInHanded {} Try.checked os 5 .any (Rows.topSetSpec.pre6 enc Try.prog Try.f5 Rows.topSetRow.domain false) (Rows.topSetSpec.post enc Try.prog Try.f5 false true false false) := by
  refine returnsInHanded_of_change (C := Try.checked) own started (by kernel_rfl) Try.func5
    (ChangeSpec.witness6 (enc := enc) (C := Try.checked) false ⟨#[], #[.slice none 0 0, .int .i64 0, .int .i64 0, .string ⟨#[]⟩], []⟩ 8 (by kernel_rfl) (by kernel_rfl) (by kernel_rfl) (by kernel_rfl)) ?_
  intro W base args ds gs before hval0 hW hcnd _
  have hval : ∀ (j : Nat) t v, Try.f5.params[j]? = some t → args[j]? = some v → Value.okWide Try.prog W .any base t v := hval0
  have hW' := hW
  obtain ⟨p, q, hA0, hV, rfl, hfz, hnd⟩ := hW
  have hA : DataW.TrodAll enc Try.prog W 0 (fun _ => true) true Try.f5.params.toList args.toList ds p := hA0
  rw [Try.params5] at hA hval
  obtain ⟨v0, vs0, d0, ds0, p0, q0, hargs, rfl, rfl, h0, r0⟩ := trodAll_cons hA
  obtain ⟨v1, vs1, d1, ds1, p1, q1, rfl, rfl, rfl, h1, r1⟩ := trodAll_cons r0
  obtain ⟨v2, vs2, d2, ds2, p2, q2, rfl, rfl, rfl, h2, r2⟩ := trodAll_cons r1
  obtain ⟨v3, vs3, d3, ds3, p3, q3, rfl, rfl, rfl, h3, r3⟩ := trodAll_cons r2
  obtain ⟨rfl, rfl, rfl⟩ := trodAll_nil r3
  obtain rfl : args = #[v0, v1, v2, v3] := by cases args; simp_all
  obtain ⟨rfl, rfl⟩ := trodVars_none hV
  have k0 := h0
  have lt0 : ∀ x ∈ p0, x.block < W.heap.size := by obtain ⟨m, hm⟩ := k0; exact DataW.trod_lt m _ _ _ hm
  have k3 := h3
  have lt3 : ∀ x ∈ p3, x.block < W.heap.size := by obtain ⟨m, hm⟩ := k3; exact DataW.trod_lt m _ _ _ hm
  obtain ⟨s, l, f, cap, rfl, hl, hol, hnl⟩ := open_acts (okWide_slice Try.underlying22 (hval 0 22 v0 rfl rfl)) h0
  obtain ⟨which, rfl, rfl, rfl, w1⟩ := open_int Try.underlying3 (hval 1 3 v1 rfl rfl) h1
  obtain ⟨ati, rfl, rfl, rfl, w2⟩ := open_int Try.underlying3 (hval 2 3 v2 rfl rfl) h2
  obtain ⟨data, rfl, hdata⟩ := open_str (okWide_string Try.underlying9 (hval 3 9 v3 rfl rfl)) h3
  clear hA0 hval0
  refine (walk l f s cap which ati data W hl hol hnl (int_ok w1) (int_ok w2) hdata).mono fun e W' ⟨he, bel⟩ => ?_
  subst he
  exact ⟨_, rfl, _, _, _, [], _, [], hW', trodAll_mk1 (shut_bool Try.underlying4 _), (trodAll_cons_mk (Below.trod laidOut (by kernel_rfl) (of_decide_eq_true (by kernel_rfl)) k0 bel lt0) (trodAll_cons_mk (shut_int Try.underlying3 w1) (trodAll_cons_mk (shut_int Try.underlying3 w2) (trodAll_cons_mk (Below.trod laidOut (by kernel_rfl) (of_decide_eq_true (by kernel_rfl)) k3 bel lt3) trodAll_mk0)))), rfl, bel.frame _, fun h => by cases h⟩

theorem over : Rows.topSetRow.holds Try.pinned (OpenSpec.ofChange Rows.topSetSpec) :=
  OpenClaim.holds_of_wide 5 Try.f5 rfl rfl rfl rfl rfl rfl rfl ⟨rfl, rfl, rfl, rfl, rfl⟩ rfl rfl rfl rfl rfl (by kernel_rfl) Try.func5 (by kernel_rfl)
    (of_decide_eq_true (by kernel_rfl)) (by unfold Func.isWrapper; first | (rw [if_pos (by decide +kernel)]; kernel_rfl) | (rw [if_neg (by decide +kernel)]; exact ⟨rfl, rfl⟩))
    (fun os started H enc _ => lifted os started H enc)
theorem proved : Rows.TopSetSaid := over
#print axioms proved
end Go.Proofs.Ythdjckbjjfiopac.topSet
