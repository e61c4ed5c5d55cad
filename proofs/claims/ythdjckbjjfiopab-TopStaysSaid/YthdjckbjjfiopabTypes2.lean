/- Empty struct literals of the program's types. No condition. -/
import Derived.Test.YthdjckbjjfiopabSlA
import Derived.Test.YthdjckbjjfiopabProg
namespace Go.Proofs.Ythdjckbjjfiopab
open Go.Sl Go.Proofs
set_option linter.unusedVariables false
set_option linter.unusedSimpArgs false

theorem bld90_ (w : World) : (Instr.build 90 #[]).run Try.prog w = .ok (.agg #[Str [], Str [], Bo false]) w := by
  simp [Instr.build, Try.zeroValue90, Try.runUnderlying90, Instr.fill, cells_agg, sl]
theorem bld151_ (w : World) : (Instr.build 151 #[]).run Try.prog w = .ok (.agg #[I 0, I 0, I 0, I 0]) w := by
  simp [Instr.build, Try.zeroValue151, Try.runUnderlying151, Instr.fill, cells_agg, sl]

end Go.Proofs.Ythdjckbjjfiopab
