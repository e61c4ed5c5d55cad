/- Arguments that are lists of texts, and lists of deeds. No condition. -/
import Derived.Test.YthdjckbjjfiopacOpenA
import Derived.Test.YthdjckbjjfiopacLgA
namespace Go.Proofs.Ythdjckbjjfiopac
open Go.Sl Go.Proofs Go.ChangeShapes Go.WideShapes Go.ChangeAt Go.RowKit
set_option linter.unusedVariables false
set_option linter.unusedSimpArgs false
section
variable {H : Type} {enc : TypeId × Value → H} {W : World} {cs : List Value}
def strOk (s : Bytes) : Prop := s.length ≤ maxLen
theorem open_strs {v : Value} {d : DataW H} {p : List MemPlace} (hv : ∃ a len cap, v = .slice a len cap) (h : DataW.Trod enc Try.prog W 0 (fun _ => true) true 28 v d p) :
    ∃ (s : Option Addr) (l : List Bytes) (cap : Nat), v = sl s l.length cap ∧ OldRows W s 1 (strR l) ∧ (∀ x ∈ l, strOk x) ∧ l.length ≤ maxLen := by
  obtain ⟨a, len, cap, rfl⟩ := hv
  obtain ⟨s, l, cap', e, h1, h2, h3⟩ := tr_slice 1 (fun n => [Str n]) strOk Try.underlying28 c_str (by decide) (fun _ hl h => tr_str Try.underlying9 h) (tr_of h)
  simp [Value.cells] at e
  exact ⟨s, l, cap', by simp [sl, e], h1, h2, h3⟩
def OldDeeds (W : World) (s : Option Addr) (gl : List (List ChangeM × LocA)) : Prop := OldRows W s 1 (dR gl) ∧ ∀ x ∈ gl, OldRows W x.2.1 3 (chR x.1)
def deedOk (x : List ChangeM × LocA) : Prop := x.1.length ≤ maxLen ∧ ∀ c ∈ x.1, chOk c
instance : Inhabited (List ChangeM × LocA) := ⟨([], (none, 0))⟩
theorem open_deeds {v : Value} {d : DataW H} {p : List MemPlace} (hv : ∃ a len cap, v = .slice a len cap) (h : DataW.Trod enc Try.prog W 0 (fun _ => true) true 68 v d p) :
    ∃ (s : Option Addr) (gl : List (List ChangeM × LocA)) (cap : Nat), v = sl s gl.length cap ∧ OldDeeds W s gl ∧ (∀ x ∈ gl, deedOk x) ∧ gl.length ≤ maxLen := by
  obtain ⟨a, len, cap, rfl⟩ := hv
  obtain ⟨s, l, cap', e, h1, h2, h3⟩ := tr_slice (α := List ChangeM × LocA) 1 (fun x => [sl x.2.1 x.1.length x.2.2]) (fun x => deedOk x ∧ OldRows W x.2.1 3 (chR x.1)) Try.underlying68 c_chs (by decide) (fun cs _ h => by
    obtain ⟨s, l, cap, e, g1, g2, g3⟩ := tr_changes h
    exact ⟨(l, (s, cap)), e, ⟨g3, g2⟩, g1⟩) (tr_of h)
  simp [Value.cells] at e
  exact ⟨s, l, cap', by simp [sl, e], ⟨h1, fun x hx => (h2 x hx).2⟩, fun x hx => (h2 x hx).1, h3⟩
theorem OldDeeds.sat {w0 w : World} {L : List HProp} {s : Option Addr} {gl : List (List ChangeM × LocA)} (h : OldDeeds w0 s gl) (hS : Sat w0 w (old w0 :: L)) : Sat w0 w (deeA s gl :: old w0 :: L) :=
  (hS.dup (Pers.old w0)).weak fun m hm => ⟨h.1.roL hm, fun x hx => (h.2 x hx).roL hm⟩
end
end Go.Proofs.Ythdjckbjjfiopac
