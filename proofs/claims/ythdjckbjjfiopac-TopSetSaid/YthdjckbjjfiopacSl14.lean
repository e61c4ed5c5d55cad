/- Assertions made of several others, opened and shut. No condition. -/
import Derived.Test.YthdjckbjjfiopacSl13
namespace Go.Sl
set_option linter.unusedVariables false
set_option linter.unusedSimpArgs false
theorem Sat.dropAll {w0 w : World} : ∀ {L X : List HProp}, Sat w0 w (L ++ X) → Sat w0 w X
  | [], X, h => h
  | A :: L, X, h => Sat.dropAll (L := L) (Sat.tail h)
instance Sub.none {L : List HProp} : Sub L [] := ⟨fun w0 w X h => by simpa using Sat.dropAll h⟩
def hlist : List HProp → HProp
  | [] => hpure True
  | A :: As => hstar A (hlist As)
theorem Sat.list {w0 w : World} : ∀ {As X : List HProp}, Sat w0 w (hlist As :: X) → Sat w0 w (As ++ X)
  | [], X, h => h.tail
  | A :: As, X, h => by
    have h1 : Sat w0 w (hlist As :: (X ++ [A])) := (Sat.star h).moveEnd
    have h2 := Sat.list h1
    rw [← List.append_assoc] at h2
    exact h2.endFront
theorem Sat.list_mk {w0 w : World} : ∀ {As X : List HProp}, Sat w0 w (As ++ X) → Sat w0 w (hlist As :: X)
  | [], X, h => Sat.pure_mk trivial h
  | A :: As, X, h => by
    have h1 : Sat w0 w (As ++ (X ++ [A])) := by
      have := Sat.moveEnd h
      simpa using this
    have h2 : Sat w0 w ((hlist As :: X) ++ [A]) := Sat.list_mk h1
    exact h2.endFront.two
/-- an assertion that holds for some z, and is made of those of A z -/
def hx {α : Type} (A : α → List HProp) : HProp := hex fun z => hlist (A z)
theorem Sat.hx {w0 w : World} {α : Type} {A : α → List HProp} {X : List HProp} (h : Sat w0 w (hx A :: X)) : ∃ z, Sat w0 w (A z ++ X) := let ⟨z, hz⟩ := Sat.ex h; ⟨z, hz.list⟩
theorem Sat.hx_mk {w0 w : World} {α : Type} {A : α → List HProp} {X : List HProp} (z : α) (h : Sat w0 w (A z ++ X)) : Sat w0 w (Go.Sl.hx A :: X) := Sat.ex_mk z h.list_mk
section
variable {c : Cx} {g : Option (Nat × Bool)} {E : Env} {L L' : List HProp} {K : List KI}
theorem g_open {α : Type} {A : α → List HProp} {F : List HProp} (B : HProp) (hB : B = hx A) [R : Rem L B F] (k : ∀ z, G c K E (A z ++ F)) : G c K E L := fun a w hE hS => by
  have h := R.sat hS
  rw [hB] at h
  obtain ⟨z, hz⟩ := h.hx
  exact k z a w hE hz
theorem g_shut {α : Type} {A : α → List HProp} {F : List HProp} (B : HProp) (hB : B = hx A) (z : α) [S : Split L (A z) F] (k : G c K E (B :: F)) : G c K E L := fun a w hE hS => by
  refine k a w hE ?_
  rw [hB]
  exact Sat.hx_mk z (S.sat hS)
/-- the rows of an owned slice, written in another way -/
theorem g_owEq {T sz cap : Nat} {rows : List (List Value)} {F : List HProp} (s : Option Addr) (rows' : List (List Value)) [R : OwR L s T sz cap rows F] (h : rows = rows') (k : G c K E (owL T sz s cap rows' :: F)) : G c K E L := fun a w hE hS => by
  subst h
  exact k a w hE (R.sat hS)
theorem g_pack {α : Type} {A : α → List HProp} {F : List HProp} (Pre : List HProp) (B : HProp) (z : α) (hB : B = hx A) (hA : A z = Pre) [S : Split L Pre F] (k : G c K E (B :: F)) : G c K E L := fun a w hE hS => by
  refine k a w hE ?_
  rw [hB]
  exact Sat.hx_mk z (hA ▸ S.sat hS)
end
end Go.Sl
