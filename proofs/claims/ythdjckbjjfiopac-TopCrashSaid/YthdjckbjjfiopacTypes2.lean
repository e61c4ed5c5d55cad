/- Empty struct literals of the program's types. No condition. -/
import Derived.Test.YthdjckbjjfiopacSlA
import Derived.Test.YthdjckbjjfiopacProg
namespace Go.Proofs.Ythdjckbjjfiopac
open Go.Sl Go.Proofs
set_option linter.unusedVariables false
set_option linter.unusedSimpArgs false

theorem bld86_ (w : World) : (Instr.build 86 #[]).run Try.prog w = .ok (.agg #[I 0, I 0, I 0, I 0]) w := by
  simp [Instr.build, Try.zeroValue86, Try.runUnderlying86, Instr.fill, cells_agg, sl]
theorem bld111_ (w : World) : (Instr.build 111 #[]).run Try.prog w = .ok (.agg #[Str [], Str [], Bo false]) w := by
  simp [Instr.build, Try.zeroValue111, Try.runUnderlying111, Instr.fill, cells_agg, sl]
theorem bld120_ (w : World) : (Instr.build 120 #[]).run Try.prog w = .ok (.agg #[I 0, I 0, I 0, I 0]) w := by
  simp [Instr.build, Try.zeroValue120, Try.runUnderlying120, Instr.fill, cells_agg, sl]

end Go.Proofs.Ythdjckbjjfiopac
