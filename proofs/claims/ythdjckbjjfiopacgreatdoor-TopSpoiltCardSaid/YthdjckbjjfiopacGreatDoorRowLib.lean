/- Walks through the functions of Go's library that rows need: comparing, cloning, deleting, finding. No condition. -/
import Derived.Test.YthdjckbjjfiopacGreatDoorRowLaw
import Derived.Test.YthdjckbjjfiopacGreatDoorSlC
import Derived.KernelRfl
namespace Go.Proofs.YthdjckbjjfiopacGreatDoor
open Go Go.Sl Go.Proofs
set_option linter.unusedVariables false
set_option linter.unusedSimpArgs false
theorem chR_ones (l : List ChangeM) : ∀ r ∈ chR l, ones r = true := fun r hr => by simp only [chR, List.mem_map] at hr; obtain ⟨x, _, rfl⟩ := hr; rfl
theorem chR_three (l : List ChangeM) : ∀ r ∈ chR l, r.length = 3 := fun r hr => by simp only [chR, List.mem_map] at hr; obtain ⟨x, _, rfl⟩ := hr; rfl

end Go.Proofs.YthdjckbjjfiopacGreatDoor
