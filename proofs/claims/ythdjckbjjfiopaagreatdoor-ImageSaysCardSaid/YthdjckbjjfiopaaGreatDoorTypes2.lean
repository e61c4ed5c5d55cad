/- Empty struct literals of the program's types. No condition. -/
import Derived.Test.YthdjckbjjfiopaaGreatDoorPartA
import Derived.Test.YthdjckbjjfiopaaGreatDoorProg
namespace Go.Proofs.YthdjckbjjfiopaaGreatDoor
open Go.Sl Go.Proofs
set_option linter.unusedVariables false
set_option linter.unusedSimpArgs false

theorem bld61_ (w : World) : (Instr.build 61 #[]).run Tryz.prog w = .ok (.agg #[Str [], I 0]) w := by
  simp [Instr.build, Tryz.zeroValue61, Tryz.runUnderlying61, Instr.fill, cells_agg, sl]
theorem bld65_ (w : World) : (Instr.build 65 #[]).run Tryz.prog w = .ok (.agg #[I 0, I 0, I 0, I 0, I 0]) w := by
  simp [Instr.build, Tryz.zeroValue65, Tryz.runUnderlying65, Instr.fill, cells_agg, sl]
end Go.Proofs.YthdjckbjjfiopaaGreatDoor
