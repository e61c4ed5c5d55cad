/- Struct literals of the program's types. No condition. -/
import Derived.Test.YthdjckbjjfiopabSlA
import Derived.Test.YthdjckbjjfiopabProg
namespace Go.Proofs.Ythdjckbjjfiopab
open Go.Sl Go.Proofs
set_option linter.unusedVariables false
set_option linter.unusedSimpArgs false

theorem bld26_0_1 (v0 : Value) (h0 : one v0 = true) (v1 : Value) (h1 : one v1 = true) (w : World) : (Instr.build 26 #[(0, v0), (1, v1)]).run Try.prog w = .ok (.agg #[v0, v1]) w := by
  simp [Instr.build, Try.zeroValue26, Try.runUnderlying26, Try.sizeOf3, Instr.fill, cells_agg, sl, cells_one h0, cells_one h1]
theorem bld90_0_1 (v0 : Value) (h0 : one v0 = true) (v1 : Value) (h1 : one v1 = true) (w : World) : (Instr.build 90 #[(0, v0), (1, v1)]).run Try.prog w = .ok (.agg #[v0, v1, Bo false]) w := by
  simp [Instr.build, Try.zeroValue90, Try.runUnderlying90, Try.sizeOf4, Try.sizeOf9, Instr.fill, cells_agg, sl, cells_one h0, cells_one h1]
theorem bld90_0_1_2 (v0 : Value) (h0 : one v0 = true) (v1 : Value) (h1 : one v1 = true) (v2 : Value) (h2 : one v2 = true) (w : World) : (Instr.build 90 #[(0, v0), (1, v1), (2, v2)]).run Try.prog w = .ok (.agg #[v0, v1, v2]) w := by
  simp [Instr.build, Try.zeroValue90, Try.runUnderlying90, Try.sizeOf4, Try.sizeOf9, Instr.fill, cells_agg, sl, cells_one h0, cells_one h1, cells_one h2]
theorem bld109_0_1_3 (v0 : Value) (h0 : one v0 = true) (v1 : Value) (h1 : one v1 = true) (v3 : Value) (h3 : one v3 = true) (w : World) : (Instr.build 109 #[(0, v0), (1, v1), (3, v3)]).run Try.prog w = .ok (.agg #[v0, v1, sl none 0 0, v3, Bo false]) w := by
  simp [Instr.build, Try.zeroValue109, Try.runUnderlying109, Try.sizeOf107, Try.sizeOf3, Try.sizeOf4, Try.sizeOf95, Instr.fill, cells_agg, sl, cells_one h0, cells_one h1, cells_one h3]
theorem bld112_0_1 (v0 : Value) (h0 : one v0 = true) (v1 : Value) (h1 : one v1 = true) (w : World) : (Instr.build 112 #[(0, v0), (1, v1)]).run Try.prog w = .ok (.agg #[v0, v1]) w := by
  simp [Instr.build, Try.zeroValue112, Try.runUnderlying112, Try.sizeOf3, Try.sizeOf9, Instr.fill, cells_agg, sl, cells_one h0, cells_one h1]
theorem bld114_0_1 (v0 : Value) (h0 : one v0 = true) (v1 : Value) (h1 : one v1 = true) (w : World) : (Instr.build 114 #[(0, v0), (1, v1)]).run Try.prog w = .ok (.agg #[v0, v1]) w := by
  simp [Instr.build, Try.zeroValue114, Try.runUnderlying114, Try.sizeOf3, Try.sizeOf9, Instr.fill, cells_agg, sl, cells_one h0, cells_one h1]
theorem bld123_0_1 (v0 : Value) (h0 : one v0 = true) (v1 : Value) (h1 : one v1 = true) (w : World) : (Instr.build 123 #[(0, v0), (1, v1)]).run Try.prog w = .ok (.agg #[v0, v1]) w := by
  simp [Instr.build, Try.zeroValue123, Try.runUnderlying123, Try.sizeOf120, Try.sizeOf121, Instr.fill, cells_agg, sl, cells_one h0, cells_one h1]
theorem bld131_0_4 (v0 : Value) (h0 : one v0 = true) (v4 : Value) (h4 : one v4 = true) (w : World) : (Instr.build 131 #[(0, v0), (4, v4)]).run Try.prog w = .ok (.agg #[v0, Str [], Str [], Str [], Str [], Str [], Str [], Str [], Str [], Str [], Str [], Str [], Str [], Str [], Str [], Str [], Str [], sl none 0 0, I 0, v4, sl none 0 0]) w := by
  simp [Instr.build, Try.zeroValue131, Try.runUnderlying131, Try.sizeOf129, Try.sizeOf22, Try.sizeOf3, Try.sizeOf75, Instr.fill, cells_agg, sl, cells_one h0, cells_one h4]
theorem bld137_0_1_2_3 (v0 : Value) (h0 : one v0 = true) (v1 : Value) (h1 : one v1 = true) (v2 : Value) (h2 : one v2 = true) (v3 : Value) (h3 : one v3 = true) (w : World) : (Instr.build 137 #[(0, v0), (1, v1), (2, v2), (3, v3)]).run Try.prog w = .ok (.agg #[v0, v1, v2, v3, I 0]) w := by
  simp [Instr.build, Try.zeroValue137, Try.runUnderlying137, Try.sizeOf3, Try.sizeOf36, Instr.fill, cells_agg, sl, cells_one h0, cells_one h1, cells_one h2, cells_one h3]
theorem bld151_0_1_2_3 (v0 : Value) (h0 : one v0 = true) (v1 : Value) (h1 : one v1 = true) (v2 : Value) (h2 : one v2 = true) (v3 : Value) (h3 : one v3 = true) (w : World) : (Instr.build 151 #[(0, v0), (1, v1), (2, v2), (3, v3)]).run Try.prog w = .ok (.agg #[v0, v1, v2, v3]) w := by
  simp [Instr.build, Try.zeroValue151, Try.runUnderlying151, Try.sizeOf3, Instr.fill, cells_agg, sl, cells_one h0, cells_one h1, cells_one h2, cells_one h3]
theorem bld163_0_1 (v0 : Value) (h0 : one v0 = true) (v1 : Value) (h1 : one v1 = true) (w : World) : (Instr.build 163 #[(0, v0), (1, v1)]).run Try.prog w = .ok (.agg #[v0, v1]) w := by
  simp [Instr.build, Try.zeroValue163, Try.runUnderlying163, Try.sizeOf3, Try.sizeOf9, Instr.fill, cells_agg, sl, cells_one h0, cells_one h1]
theorem bld167_0 (v0 : Value) (h0 : one v0 = true) (w : World) : (Instr.build 167 #[(0, v0)]).run Try.prog w = .ok (.agg #[v0]) w := by
  simp [Instr.build, Try.zeroValue167, Try.runUnderlying167, Try.sizeOf165, Instr.fill, cells_agg, sl, cells_one h0]
theorem bld173_0_1_2 (v0 : Value) (h0 : one v0 = true) (v1 : Value) (h1 : one v1 = true) (v2 : Value) (h2 : one v2 = true) (w : World) : (Instr.build 173 #[(0, v0), (1, v1), (2, v2)]).run Try.prog w = .ok (.agg #[v0, v1, v2]) w := by
  simp [Instr.build, Try.zeroValue173, Try.runUnderlying173, Try.sizeOf171, Try.sizeOf3, Try.sizeOf53, Instr.fill, cells_agg, sl, cells_one h0, cells_one h1, cells_one h2]
theorem bld173_0_2 (v0 : Value) (h0 : one v0 = true) (v2 : Value) (h2 : one v2 = true) (w : World) : (Instr.build 173 #[(0, v0), (2, v2)]).run Try.prog w = .ok (.agg #[v0, sl none 0 0, v2]) w := by
  simp [Instr.build, Try.zeroValue173, Try.runUnderlying173, Try.sizeOf171, Try.sizeOf3, Try.sizeOf53, Instr.fill, cells_agg, sl, cells_one h0, cells_one h2]

end Go.Proofs.Ythdjckbjjfiopab
