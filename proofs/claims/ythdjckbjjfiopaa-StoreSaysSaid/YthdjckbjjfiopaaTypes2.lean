/- Empty struct literals of the program's types. No condition. -/
import Derived.Test.YthdjckbjjfiopaaSlA
import Derived.Test.YthdjckbjjfiopaaProg
namespace Go.Proofs.Ythdjckbjjfiopaa
open Go.Sl Go.Proofs
set_option linter.unusedVariables false
set_option linter.unusedSimpArgs false

theorem bld95_ (w : World) : (Instr.build 95 #[]).run Try.prog w = .ok (.agg #[Str [], Str [], Bo false]) w := by
  simp [Instr.build, Try.zeroValue95, Try.runUnderlying95, Instr.fill, cells_agg, sl]
theorem bld122_ (w : World) : (Instr.build 122 #[]).run Try.prog w = .ok (.agg #[Str [], I 0]) w := by
  simp [Instr.build, Try.zeroValue122, Try.runUnderlying122, Instr.fill, cells_agg, sl]
theorem bld126_ (w : World) : (Instr.build 126 #[]).run Try.prog w = .ok (.agg #[I 0, I 0, I 0, I 0, I 0]) w := by
  simp [Instr.build, Try.zeroValue126, Try.runUnderlying126, Instr.fill, cells_agg, sl]
theorem bld166_ (w : World) : (Instr.build 166 #[]).run Try.prog w = .ok (.agg #[I 0, I 0, I 0, I 0]) w := by
  simp [Instr.build, Try.zeroValue166, Try.runUnderlying166, Instr.fill, cells_agg, sl]
theorem bld222_ (w : World) : (Instr.build 222 #[]).run Try.prog w = .ok (.agg #[I 0, I 0, I 0, I 0]) w := by
  simp [Instr.build, Try.zeroValue222, Try.runUnderlying222, Instr.fill, cells_agg, sl]

end Go.Proofs.Ythdjckbjjfiopaa
