/- The statement TopStays: whatever the input, the law returns true, and the arguments read as before. No condition. -/
import Derived.Test.YthdjckbjjfiopabOpenA
import Derived.Test.YthdjckbjjfiopabTopStays
namespace Go.Proofs.Ythdjckbjjfiopab.topStays
open Go.Sl Go.Proofs Go.ChangeShapes Go.WideShapes Go.ChangeAt Go.RowKit
set_option linter.unusedVariables false

theorem walk (l : List ActM) (f : Nat → ActZ) (s : Option Addr) (cap : Nat) (m : List ActM) (g : Nat → ActZ) (t : Option Addr) (capm : Nat) (id : Int) (W : World) (hl : OldActs W s l f) (hol : ∀ x ∈ l, actOkW x) (hnl : l.length ≤ maxLen) (hm : OldActs W t m g) (hom : ∀ x ∈ m, actOkW x) (hnm : m.length ≤ maxLen) (hid : ok64 id) :
    Calls Try.prog 11 #[sl s l.length cap, sl t m.length capm, I id] W fun e w' => e = .returned (.bool true) ∧ Below W.heap.size W w' := by
  have g0 := hl.sat (Sat.start W)
  have g1 := hm.sat (g0.pick [1, 0] (L' := [old W, acts s l f]) rfl (by decide))
  have hh : Sat W W ([acts s l f, acts t m g] ++ [old W]) := (g1).pick [2, 0, 1] rfl (by decide)
  exact law_of hh (ct_T_TopStays l f s cap m g t capm id (Nat.le_trans hnl (by decide)) (fun x hx => have h := hol x hx; ⟨Nat.le_trans h.2.2.2.2.2.2.1.1 (by decide), Nat.le_trans h.2.2.2.2.2.2.2.1 (by decide)⟩) (Nat.le_trans hnm (by decide)) (fun x hx => have h := hom x hx; ⟨Nat.le_trans h.2.2.2.2.2.2.1.1 (by decide), Nat.le_trans h.2.2.2.2.2.2.2.1 (by decide)⟩))

set_option maxRecDepth 100000 in
theorem lifted (os : Os) (started : os.Started) (H : Type) (enc : TypeId × Value → H) :
    ReturnsInHanded {} Try.checked os 11 .any (Rows.topStaysSpec.pre6 enc Try.prog Try.f11 Rows.topStaysRow.domain false) (Rows.topStaysSpec.post enc Try.prog Try.f11 false true false false) := by
  refine returnsInHanded_of_change (C := Try.checked) own started (by kernel_rfl) Try.func11
    (ChangeSpec.witness6 (enc := enc) (C := Try.checked) false ⟨#[], #[.slice none 0 0, .slice none 0 0, .int .i64 0], []⟩ 8 (by kernel_rfl) (by kernel_rfl) (by kernel_rfl) (by kernel_rfl)) ?_
  intro W base args ds gs before hval0 hW hcnd _
  have hval : ∀ (j : Nat) t v, Try.f11.params[j]? = some t → args[j]? = some v → Value.okWide Try.prog W .any base t v := hval0
  have hW' := hW
  obtain ⟨p, q, hA0, hV, rfl, hfz, hnd⟩ := hW
  have hA : DataW.TrodAll enc Try.prog W 0 (fun _ => true) true Try.f11.params.toList args.toList ds p := hA0
  rw [Try.params11] at hA hval
  obtain ⟨v0, vs0, d0, ds0, p0, q0, hargs, rfl, rfl, h0, r0⟩ := trodAll_cons hA
  obtain ⟨v1, vs1, d1, ds1, p1, q1, rfl, rfl, rfl, h1, r1⟩ := trodAll_cons r0
  obtain ⟨v2, vs2, d2, ds2, p2, q2, rfl, rfl, rfl, h2, r2⟩ := trodAll_cons r1
  obtain ⟨rfl, rfl, rfl⟩ := trodAll_nil r2
  obtain rfl : args = #[v0, v1, v2] := by cases args; simp_all
  obtain ⟨rfl, rfl⟩ := trodVars_none hV
  have k0 := h0
  have lt0 : ∀ x ∈ p0, x.block < W.heap.size := by obtain ⟨m, hm⟩ := k0; exact DataW.trod_lt m _ _ _ hm
  have k1 := h1
  have lt1 : ∀ x ∈ p1, x.block < W.heap.size := by obtain ⟨m, hm⟩ := k1; exact DataW.trod_lt m _ _ _ hm
  obtain ⟨s, l, f, cap, rfl, hl, hol, hnl⟩ := open_acts (okWide_slice Try.underlying34 (hval 0 34 v0 rfl rfl)) h0
  obtain ⟨t, m, g, capm, rfl, hm, hom, hnm⟩ := open_acts (okWide_slice Try.underlying34 (hval 1 34 v1 rfl rfl)) h1
  obtain ⟨id, rfl, rfl, rfl, w2⟩ := open_int Try.underlying3 (hval 2 3 v2 rfl rfl) h2
  clear hA0 hval0
  refine (walk l f s cap m g t capm id W hl hol hnl hm hom hnm (int_ok w2)).mono fun e W' ⟨he, bel⟩ => ?_
  subst he
  exact ⟨_, rfl, _, _, _, [], _, [], hW', trodAll_mk1 (shut_bool Try.underlying4 _), (trodAll_cons_mk (Below.trod laidOut (by kernel_rfl) (of_decide_eq_true (by kernel_rfl)) k0 bel lt0) (trodAll_cons_mk (Below.trod laidOut (by kernel_rfl) (of_decide_eq_true (by kernel_rfl)) k1 bel lt1) (trodAll_cons_mk (shut_int Try.underlying3 w2) trodAll_mk0))), rfl, bel.frame _, fun h => by cases h⟩

theorem over : Rows.topStaysRow.holds Try.pinned (OpenSpec.ofChange Rows.topStaysSpec) :=
  OpenClaim.holds_of_wide 11 Try.f11 rfl rfl rfl rfl rfl rfl rfl ⟨rfl, rfl, rfl, rfl, rfl⟩ rfl rfl rfl rfl rfl (by kernel_rfl) Try.func11 (by kernel_rfl)
    (of_decide_eq_true (by kernel_rfl)) (by unfold Func.isWrapper; first | (rw [if_pos (by decide +kernel)]; kernel_rfl) | (rw [if_neg (by decide +kernel)]; exact ⟨rfl, rfl⟩))
    (fun os started H enc _ => lifted os started H enc)
theorem proved : Rows.TopStaysSaid := over
#print axioms proved
end Go.Proofs.Ythdjckbjjfiopab.topStays
