/- From how an argument reads to what the walk wants of it. No condition. -/
import Derived.Test.YthdjckbjjfiopacArea5
import Derived.Test.YthdjckbjjfiopacRows
import Derived.WalkKit
import Derived.ProofKit
import Derived.OpenShut
import Derived.ShutString
import Derived.ChangeOld
import Derived.Deep.Slices
namespace Go.Proofs.Ythdjckbjjfiopac
open Go.Sl Go.Proofs Go.ChangeShapes Go.WideShapes Go.ChangeAt Go.RowKit
set_option linter.unusedVariables false
set_option linter.unusedSimpArgs false
theorem own : ownKnob Try.prog.godebug = none := by kernel_rfl
theorem laidOut : laidOutB Try.prog = true := by kernel_rfl

/-- rows that lie in old memory -/
def OldRows (W : World) (a : Option Addr) (sz : Nat) (rows : List (List Value)) : Prop := rows = [] ∨ ∃ b off o, a = some ⟨b, off, none⟩ ∧ W.heap[b]? = some o ∧ Go.Sl.Rows o off sz rows
theorem OldRows.sat {w0 w : World} {L : List HProp} {a : Option Addr} {sz : Nat} {rows : List (List Value)} (h : OldRows w0 a sz rows) (hS : Sat w0 w (old w0 :: L)) : Sat w0 w (roL sz a rows :: old w0 :: L) := by
  rcases h with rfl | ⟨b, off, o, rfl, hb, hr⟩
  · exact (Sat.pure_mk (φ := True) trivial hS).weak fun m _ => Or.inl rfl
  · exact (hS.old_ro hb).weak fun m hm => Or.inr ⟨b, off, o, rfl, hm, hr⟩

theorem two_of {l : List Value} (h : l.length = 2) : ∃ a b, l = [a, b] := by
  match l, h with
  | [a, b], _ => exact ⟨a, b, rfl⟩
theorem int_ok {n : Int} (h : (Lit.int .i64 n).wf = true) : ok64 n := by
  have := h
  simp [Lit.wf, IntKind.min, IntKind.max, IntKind.signed, IntKind.bits] at this
  unfold ok64
  omega

section
variable {H : Type} {enc : TypeId × Value → H} {W : World} {spare : Nat → Bool} {held : Bool}
/-- cells of an element, wherever they lie -/
theorem oldRows_of {sz len : Nat} {a : Addr} {rows : List (List Value)} (hl : rows.length = len) (h : ∀ i row, rows[i]? = some row → ∀ f v, row[f]? = some v → W.cell? ((a.add (i * sz)).add f) = some v) (hne : ∀ row ∈ rows, row ≠ []) : OldRows W (some a) sz rows := by
  by_cases h0 : rows = []
  · exact .inl h0
  · right
    obtain ⟨r0, rs, rfl⟩ := List.exists_cons_of_ne_nil h0
    obtain ⟨v0, vs, hr0⟩ := List.exists_cons_of_ne_nil (hne r0 (by simp))
    have hc := h 0 r0 rfl 0 v0 (by rw [hr0]; rfl)
    have hsp := World.cell?_spot hc
    simp [Addr.add] at hsp hc
    obtain ⟨b, off, spot⟩ := a
    simp only at hsp
    subst hsp
    cases hh : W.heap[b]? with
    | none => simp [World.cell?, hh] at hc
    | some o =>
      refine ⟨b, off, o, rfl, hh, fun j row hj f v hf => ?_⟩
      have hc2 := h j row hj f v hf
      rw [add_mk, add_mk] at hc2
      unfold World.cell? at hc2
      simp only [hh] at hc2
      cases o <;> simp at hc2
      simpa [objCell, Nat.add_assoc] using hc2
/-- a contract of a law, as the row wants it -/
theorem law_of {f : Nat} {args : List Value} {W : World} {L : List HProp} (hS : Sat W W (L ++ [old W])) (h : ∀ F, Ct Try.prog f args (L ++ F) (R1 (.bool true) (L ++ F))) :
    Calls Try.prog f args.toArray W fun e w' => e = .returned (.bool true) ∧ RowKit.Below W.heap.size W w' :=
  (h [old W] W W hS).mono fun e w' he => by
    cases e with
    | returned v =>
      obtain ⟨L', h1, rfl, rfl⟩ := he
      exact ⟨rfl, (h1.endFront).below⟩
    | panicked ch => exact he.elim
    | outgrown => exact he.elim
end
end Go.Proofs.Ythdjckbjjfiopac
