/- Arguments that are lists of deeds. No condition. -/
import Derived.Test.YthdjckbjjfiopacLgM
namespace Go.Proofs.Ythdjckbjjfiopac
open Go.Sl Go.Proofs
set_option linter.unusedVariables false
set_option linter.unusedSimpArgs false
/-- deeds at s, and what each refers to -/
def deeA (s : Option Addr) (gl : List (List ChangeM × LocA)) : HProp := fun m => roL 1 s (dR gl) m ∧ ∀ x ∈ gl, roL 3 x.2.1 (chR x.1) m
theorem deeA_pers (s : Option Addr) (gl : List (List ChangeM × LocA)) : Pers (deeA s gl) := fun m h => by
  refine ⟨ros m, fun b x hx => ?_, fun b x hx => ?_, roL_ros h.1, fun x hx => roL_ros (h.2 x hx)⟩
  · unfold ros at hx
    split at hx
    · rename_i o ho; rw [ho]; exact hx
    · cases hx
  · unfold ros at hx
    split at hx
    · injection hx with hx; subst hx; rfl
    · cases hx
section
variable {c : Cx} {E : Env} {L : List HProp} {K : List KI}
theorem g_deeA {F : List HProp} (s : Option Addr) (gl : List (List ChangeM × LocA)) [R : Rem L (deeA s gl) F] (k : G c K E (dees gl :: roL 1 s (dR gl) :: deeA s gl :: F)) : G c K E L := fun a w hE hS => by
  have h1 := (R.sat hS).dup (deeA_pers s gl)
  have h2 : Sat c.w0 w (roL 1 s (dR gl) :: deeA s gl :: F) := h1.weak fun m hm => hm.1
  have r2 : Rem (roL 1 s (dR gl) :: deeA s gl :: F) (deeA s gl) (roL 1 s (dR gl) :: F) := inferInstance
  have h3 := (r2.sat h2).dup (deeA_pers s gl)
  have r3 : Rem (deeA s gl :: deeA s gl :: roL 1 s (dR gl) :: F) (roL 1 s (dR gl)) (deeA s gl :: deeA s gl :: F) := inferInstance
  have h4 := r3.sat h3
  have r4 : Rem (roL 1 s (dR gl) :: deeA s gl :: deeA s gl :: F) (deeA s gl) (roL 1 s (dR gl) :: deeA s gl :: F) := inferInstance
  exact k a w hE ((r4.sat h4).weak fun m hm => hm.2)
end

end Go.Proofs.Ythdjckbjjfiopac
