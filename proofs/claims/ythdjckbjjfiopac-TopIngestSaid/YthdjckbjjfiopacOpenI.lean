/- Arguments that are lists of numbers. No condition. -/
import Derived.Test.YthdjckbjjfiopacOpenA
import Derived.Test.YthdjckbjjfiopacNums
namespace Go.Proofs.Ythdjckbjjfiopac
open Go.Sl Go.Proofs Go.ChangeShapes Go.WideShapes Go.ChangeAt Go.RowKit
set_option linter.unusedVariables false
section
variable {H : Type} {enc : TypeId × Value → H} {W : World} {cs : List Value}
theorem open_ints {v : Value} {d : DataW H} {p : List MemPlace} (hv : ∃ a len cap, v = .slice a len cap) (h : DataW.Trod enc Try.prog W 0 (fun _ => true) true 45 v d p) :
    ∃ (s : Option Addr) (l : List Int) (cap : Nat), v = sl s l.length cap ∧ OldRows W s 1 (intR l) ∧ (∀ x ∈ l, ok64 x) ∧ l.length ≤ maxLen := by
  obtain ⟨a, len, cap, rfl⟩ := hv
  obtain ⟨s, l, cap', e, h1, h2, h3⟩ := tr_slice 1 (fun n => [I n]) ok64 Try.underlying45 c_int (by decide) (fun _ hl h => tr_int Try.underlying3 h) (tr_of h)
  simp [Value.cells] at e
  exact ⟨s, l, cap', by simp [sl, e], h1, h2, h3⟩
theorem open_puts {v : Value} {d : DataW H} {p : List MemPlace} (hv : ∃ a len cap, v = .slice a len cap) (h : DataW.Trod enc Try.prog W 0 (fun _ => true) true 23 v d p) :
    ∃ (s : Option Addr) (l : List PutM) (cap : Nat), v = sl s l.length cap ∧ OldRows W s 2 (putR l) ∧ (∀ x ∈ l, putOk x) ∧ l.length ≤ maxLen := by
  obtain ⟨a, len, cap, rfl⟩ := hv
  obtain ⟨s, l, cap', e, h1, h2, h3⟩ := tr_puts (tr_of h)
  simp [Value.cells] at e
  exact ⟨s, l, cap', by simp [sl, e], h1, h2, h3⟩
end
end Go.Proofs.Ythdjckbjjfiopac
