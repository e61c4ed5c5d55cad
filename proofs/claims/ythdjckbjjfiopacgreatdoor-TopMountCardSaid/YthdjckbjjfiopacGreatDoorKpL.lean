/- What dropping the eldest points leaves. Plain laws. No condition. -/
import Derived.Test.YthdjckbjjfiopacGreatDoorCrL
set_option linter.unusedSimpArgs false
set_option linter.unusedVariables false
namespace Go.Proofs.YthdjckbjjfiopacGreatDoor
open Go.Sl Go.Proofs
theorem ids_nodup {S:SI}{L:List Pt}{n:Int}{G:Gh}(h:Vok S L n G):(L.map (·.id)).Nodup:=by
  rw[List.Nodup,List.pairwise_map];exact h.srt.imp fun h=>by omega
end Go.Proofs.YthdjckbjjfiopacGreatDoor
