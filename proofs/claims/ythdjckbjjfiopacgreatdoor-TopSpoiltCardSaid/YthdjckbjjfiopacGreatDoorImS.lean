/- slices.SortFunc at []api.Change with the comparison of keys, as a contract over owned slices: the kit's shelf's contract, told in this layer's words. No condition but the length's bound. -/
import Derived.Test.YthdjckbjjfiopacGreatDoorRowLib
import Derived.Test.YthdjckbjjfiopacGreatDoorSort
import Derived.Shelf.SlSortCmp.NoneTotal
namespace Go.Proofs.YthdjckbjjfiopacGreatDoor
open Go.Sl Go.Proofs Go.Sort Go.RowKit
set_option linter.unusedVariables false
set_option linter.unusedSimpArgs false
instance instInhC : Inhabited ChangeM := ⟨⟨[], [], false⟩⟩
end Go.Proofs.YthdjckbjjfiopacGreatDoor
