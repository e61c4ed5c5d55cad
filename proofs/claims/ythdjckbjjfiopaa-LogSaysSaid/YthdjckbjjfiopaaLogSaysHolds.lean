/- The statement LogSays: whatever the input, the law returns true, and the arguments read as before. No condition. -/
import Derived.Test.YthdjckbjjfiopaaOpenS
import Derived.Test.YthdjckbjjfiopaaLogSays
namespace Go.Proofs.Ythdjckbjjfiopaa.logSays
open Go.Sl Go.Proofs Go.ChangeShapes Go.WideShapes Go.ChangeAt Go.RowKit
set_option linter.unusedVariables false

theorem walk (L : List Bytes) (sL : Option Addr) (cL : Nat) (from_ : Int) (many : Int) (first : Int) (l : List ActM) (f : Nat → ActZ) (s : Option Addr) (cap : Nat) (W : World) (hL : OldRows W sL 1 (strR L)) (hoL : ∀ x ∈ L, strOk x) (hnL : L.length ≤ maxLen) (hfrom_ : ok64 from_) (hmany : ok64 many) (hfirst : ok64 first) (hl : OldActs W s l f) (hol : ∀ x ∈ l, actOkW x) (hnl : l.length ≤ maxLen) :
    Calls Try.prog 7 #[sl sL L.length cL, I from_, I many, I first, sl s l.length cap] W fun e w' => e = .returned (.bool true) ∧ Below W.heap.size W w' := by
  have g0 := hL.sat (Sat.start W)
  have g1 := hl.sat (g0.pick [1, 0] (L' := [old W, roL 1 sL (strR L)]) rfl (by decide))
  have hh : Sat W W ([roL 1 sL (strR L), acts s l f] ++ [old W]) := (g1).pick [2, 0, 1] rfl (by decide)
  exact law_of hh (ct_L_LogSays L sL cL from_ many first l f s cap (Nat.le_trans hnL (by decide)) hfrom_ hmany hfirst (Nat.le_trans hnl (by decide)) (fun x hx => have h := hol x hx; ⟨Nat.le_trans h.2.2.2.2.2.2.1.1 (by decide), Nat.le_trans h.2.2.2.2.2.2.2.1 (by decide)⟩))

set_option maxRecDepth 100000 in
theorem lifted (os : Os) (started : os.Started) (H : Type) (enc : TypeId × Value → H) :
    ReturnsInHanded {} Try.checked os 7 .any (Rows.logSaysSpec.pre6 enc Try.prog Try.f7 Rows.logSaysRow.domain false) (Rows.logSaysSpec.post enc Try.prog Try.f7 false true false false) := by
  refine returnsInHanded_of_change (C := Try.checked) own started (by kernel_rfl) Try.func7
    (ChangeSpec.witness6 (enc := enc) (C := Try.checked) false ⟨#[], #[.slice none 0 0, .int .i64 0, .int .i64 0, .int .i64 0, .slice none 0 0], []⟩ 8 (by kernel_rfl) (by kernel_rfl) (by kernel_rfl) (by kernel_rfl)) ?_
  intro W base args ds gs before hval0 hW hcnd _
  have hval : ∀ (j : Nat) t v, Try.f7.params[j]? = some t → args[j]? = some v → Value.okWide Try.prog W .any base t v := hval0
  have hW' := hW
  obtain ⟨p, q, hA0, hV, rfl, hfz, hnd⟩ := hW
  have hA : DataW.TrodAll enc Try.prog W 0 (fun _ => true) true Try.f7.params.toList args.toList ds p := hA0
  rw [Try.params7] at hA hval
  obtain ⟨v0, vs0, d0, ds0, p0, q0, hargs, rfl, rfl, h0, r0⟩ := trodAll_cons hA
  obtain ⟨v1, vs1, d1, ds1, p1, q1, rfl, rfl, rfl, h1, r1⟩ := trodAll_cons r0
  obtain ⟨v2, vs2, d2, ds2, p2, q2, rfl, rfl, rfl, h2, r2⟩ := trodAll_cons r1
  obtain ⟨v3, vs3, d3, ds3, p3, q3, rfl, rfl, rfl, h3, r3⟩ := trodAll_cons r2
  obtain ⟨v4, vs4, d4, ds4, p4, q4, rfl, rfl, rfl, h4, r4⟩ := trodAll_cons r3
  obtain ⟨rfl, rfl, rfl⟩ := trodAll_nil r4
  obtain rfl : args = #[v0, v1, v2, v3, v4] := by cases args; simp_all
  obtain ⟨rfl, rfl⟩ := trodVars_none hV
  have k0 := h0
  have lt0 : ∀ x ∈ p0, x.block < W.heap.size := by obtain ⟨m, hm⟩ := k0; exact DataW.trod_lt m _ _ _ hm
  have k4 := h4
  have lt4 : ∀ x ∈ p4, x.block < W.heap.size := by obtain ⟨m, hm⟩ := k4; exact DataW.trod_lt m _ _ _ hm
  obtain ⟨sL, L, cL, rfl, hL, hoL, hnL⟩ := open_strs (okWide_slice Try.underlying61 (hval 0 61 v0 rfl rfl)) h0
  obtain ⟨from_, rfl, rfl, rfl, w1⟩ := open_int Try.underlying3 (hval 1 3 v1 rfl rfl) h1
  obtain ⟨many, rfl, rfl, rfl, w2⟩ := open_int Try.underlying3 (hval 2 3 v2 rfl rfl) h2
  obtain ⟨first, rfl, rfl, rfl, w3⟩ := open_int Try.underlying3 (hval 3 3 v3 rfl rfl) h3
  obtain ⟨s, l, f, cap, rfl, hl, hol, hnl⟩ := open_acts (okWide_slice Try.underlying39 (hval 4 39 v4 rfl rfl)) h4
  clear hA0 hval0
  refine (walk L sL cL from_ many first l f s cap W hL hoL hnL (int_ok w1) (int_ok w2) (int_ok w3) hl hol hnl).mono fun e W' ⟨he, bel⟩ => ?_
  subst he
  exact ⟨_, rfl, _, _, _, [], _, [], hW', trodAll_mk1 (shut_bool Try.underlying4 _), (trodAll_cons_mk (Below.trod laidOut (by kernel_rfl) (of_decide_eq_true (by kernel_rfl)) k0 bel lt0) (trodAll_cons_mk (shut_int Try.underlying3 w1) (trodAll_cons_mk (shut_int Try.underlying3 w2) (trodAll_cons_mk (shut_int Try.underlying3 w3) (trodAll_cons_mk (Below.trod laidOut (by kernel_rfl) (of_decide_eq_true (by kernel_rfl)) k4 bel lt4) trodAll_mk0))))), rfl, bel.frame _, fun h => by cases h⟩

theorem over : Rows.logSaysRow.holds Try.pinned (OpenSpec.ofChange Rows.logSaysSpec) :=
  OpenClaim.holds_of_wide 7 Try.f7 rfl rfl rfl rfl rfl rfl rfl ⟨rfl, rfl, rfl, rfl, rfl⟩ rfl rfl rfl rfl rfl (by kernel_rfl) Try.func7 (by kernel_rfl)
    (of_decide_eq_true (by kernel_rfl)) (by unfold Func.isWrapper; first | (rw [if_pos (by decide +kernel)]; kernel_rfl) | (rw [if_neg (by decide +kernel)]; exact ⟨rfl, rfl⟩))
    (fun os started H enc _ => lifted os started H enc)
theorem proved : Rows.LogSaysSaid := over
#print axioms proved
end Go.Proofs.Ythdjckbjjfiopaa.logSays
