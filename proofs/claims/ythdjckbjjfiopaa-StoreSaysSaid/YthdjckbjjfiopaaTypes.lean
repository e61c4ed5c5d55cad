/- Struct literals of the program's types. No condition. -/
import Derived.Test.YthdjckbjjfiopaaSlA
import Derived.Test.YthdjckbjjfiopaaProg
namespace Go.Proofs.Ythdjckbjjfiopaa
open Go.Sl Go.Proofs
set_option linter.unusedVariables false
set_option linter.unusedSimpArgs false

theorem bld64_3 (v3 : Value) (h3 : one v3 = true) (w : World) : (Instr.build 64 #[(3, v3)]).run Try.prog w = .ok (.agg #[sl none 0 0, sl none 0 0, sl none 0 0, v3, Bo false]) w := by
  simp [Instr.build, Try.zeroValue64, Try.runUnderlying64, Try.sizeOf3, Try.sizeOf4, Try.sizeOf61, Try.sizeOf62, Instr.fill, cells_agg, sl, cells_one h3]
theorem bld80_0_4 (v0 : Value) (h0 : one v0 = true) (v4 : Value) (h4 : one v4 = true) (w : World) : (Instr.build 80 #[(0, v0), (4, v4)]).run Try.prog w = .ok (.agg #[v0, Str [], Str [], Str [], Str [], Str [], Str [], Str [], Str [], Str [], Str [], Str [], Str [], Str [], Str [], Str [], Str [], Bo false, Bo false, Bo false, Bo false, Bo false, Bo false, Bo false, Bo false, Bo false, Bo false, Bo false, Bo false, Bo false, Bo false, Bo false, Bo false, I 0, v4, sl none 0 0]) w := by
  simp [Instr.build, Try.zeroValue80, Try.runUnderlying80, Try.sizeOf3, Try.sizeOf35, Try.sizeOf77, Try.sizeOf78, Instr.fill, cells_agg, sl, cells_one h0, cells_one h4]
theorem bld95_0_1 (v0 : Value) (h0 : one v0 = true) (v1 : Value) (h1 : one v1 = true) (w : World) : (Instr.build 95 #[(0, v0), (1, v1)]).run Try.prog w = .ok (.agg #[v0, v1, Bo false]) w := by
  simp [Instr.build, Try.zeroValue95, Try.runUnderlying95, Try.sizeOf4, Try.sizeOf9, Instr.fill, cells_agg, sl, cells_one h0, cells_one h1]
theorem bld95_0_1_2 (v0 : Value) (h0 : one v0 = true) (v1 : Value) (h1 : one v1 = true) (v2 : Value) (h2 : one v2 = true) (w : World) : (Instr.build 95 #[(0, v0), (1, v1), (2, v2)]).run Try.prog w = .ok (.agg #[v0, v1, v2]) w := by
  simp [Instr.build, Try.zeroValue95, Try.runUnderlying95, Try.sizeOf4, Try.sizeOf9, Instr.fill, cells_agg, sl, cells_one h0, cells_one h1, cells_one h2]
theorem bld122_0_1 (v0 : Value) (h0 : one v0 = true) (v1 : Value) (h1 : one v1 = true) (w : World) : (Instr.build 122 #[(0, v0), (1, v1)]).run Try.prog w = .ok (.agg #[v0, v1]) w := by
  simp [Instr.build, Try.zeroValue122, Try.runUnderlying122, Try.sizeOf3, Try.sizeOf9, Instr.fill, cells_agg, sl, cells_one h0, cells_one h1]
theorem bld137_0 (v0 : Value) (h0 : one v0 = true) (w : World) : (Instr.build 137 #[(0, v0)]).run Try.prog w = .ok (.agg #[v0]) w := by
  simp [Instr.build, Try.zeroValue137, Try.runUnderlying137, Try.sizeOf135, Instr.fill, cells_agg, sl, cells_one h0]
theorem bld153_2 (v2 : Value) (h2 : one v2 = true) (w : World) : (Instr.build 153 #[(2, v2)]).run Try.prog w = .ok (.agg #[sl none 0 0, I 0, v2]) w := by
  simp [Instr.build, Try.zeroValue153, Try.runUnderlying153, Try.sizeOf3, Try.sizeOf50, Instr.fill, cells_agg, sl, cells_one h2]
theorem bld166_0_1_2_3 (v0 : Value) (h0 : one v0 = true) (v1 : Value) (h1 : one v1 = true) (v2 : Value) (h2 : one v2 = true) (v3 : Value) (h3 : one v3 = true) (w : World) : (Instr.build 166 #[(0, v0), (1, v1), (2, v2), (3, v3)]).run Try.prog w = .ok (.agg #[v0, v1, v2, v3]) w := by
  simp [Instr.build, Try.zeroValue166, Try.runUnderlying166, Try.sizeOf3, Instr.fill, cells_agg, sl, cells_one h0, cells_one h1, cells_one h2, cells_one h3]
theorem bld170_0_1 (v0 : Value) (h0 : one v0 = true) (v1 : Value) (h1 : one v1 = true) (w : World) : (Instr.build 170 #[(0, v0), (1, v1)]).run Try.prog w = .ok (.agg #[v0, v1]) w := by
  simp [Instr.build, Try.zeroValue170, Try.runUnderlying170, Try.sizeOf3, Instr.fill, cells_agg, sl, cells_one h0, cells_one h1]
theorem bld178_0_1 (v0 : Value) (h0 : one v0 = true) (v1 : Value) (h1 : one v1 = true) (w : World) : (Instr.build 178 #[(0, v0), (1, v1)]).run Try.prog w = .ok (.agg #[v0, v1]) w := by
  simp [Instr.build, Try.zeroValue178, Try.runUnderlying178, Try.sizeOf3, Try.sizeOf9, Instr.fill, cells_agg, sl, cells_one h0, cells_one h1]
theorem bld184_0_1_3 (v0 : Value) (h0 : one v0 = true) (v1 : Value) (h1 : one v1 = true) (v3 : Value) (h3 : one v3 = true) (w : World) : (Instr.build 184 #[(0, v0), (1, v1), (3, v3)]).run Try.prog w = .ok (.agg #[v0, v1, sl none 0 0, v3, Bo false]) w := by
  simp [Instr.build, Try.zeroValue184, Try.runUnderlying184, Try.sizeOf182, Try.sizeOf3, Try.sizeOf4, Try.sizeOf61, Instr.fill, cells_agg, sl, cells_one h0, cells_one h1, cells_one h3]
theorem bld187_0_1 (v0 : Value) (h0 : one v0 = true) (v1 : Value) (h1 : one v1 = true) (w : World) : (Instr.build 187 #[(0, v0), (1, v1)]).run Try.prog w = .ok (.agg #[v0, v1]) w := by
  simp [Instr.build, Try.zeroValue187, Try.runUnderlying187, Try.sizeOf3, Try.sizeOf9, Instr.fill, cells_agg, sl, cells_one h0, cells_one h1]
theorem bld188_0_1 (v0 : Value) (h0 : one v0 = true) (v1 : Value) (h1 : one v1 = true) (w : World) : (Instr.build 188 #[(0, v0), (1, v1)]).run Try.prog w = .ok (.agg #[v0, v1]) w := by
  simp [Instr.build, Try.zeroValue188, Try.runUnderlying188, Try.sizeOf3, Try.sizeOf9, Instr.fill, cells_agg, sl, cells_one h0, cells_one h1]
theorem bld193_0_4 (v0 : Value) (h0 : one v0 = true) (v4 : Value) (h4 : one v4 = true) (w : World) : (Instr.build 193 #[(0, v0), (4, v4)]).run Try.prog w = .ok (.agg #[v0, Str [], Str [], Str [], Str [], Str [], Str [], Str [], Str [], Str [], Str [], Str [], Str [], Str [], Str [], Str [], Str [], sl none 0 0, I 0, v4, sl none 0 0]) w := by
  simp [Instr.build, Try.zeroValue193, Try.runUnderlying193, Try.sizeOf191, Try.sizeOf22, Try.sizeOf3, Try.sizeOf77, Instr.fill, cells_agg, sl, cells_one h0, cells_one h4]
theorem bld206_0_1_2_3 (v0 : Value) (h0 : one v0 = true) (v1 : Value) (h1 : one v1 = true) (v2 : Value) (h2 : one v2 = true) (v3 : Value) (h3 : one v3 = true) (w : World) : (Instr.build 206 #[(0, v0), (1, v1), (2, v2), (3, v3)]).run Try.prog w = .ok (.agg #[v0, v1, v2, v3, I 0]) w := by
  simp [Instr.build, Try.zeroValue206, Try.runUnderlying206, Try.sizeOf3, Try.sizeOf41, Instr.fill, cells_agg, sl, cells_one h0, cells_one h1, cells_one h2, cells_one h3]
theorem bld215_0_1 (v0 : Value) (h0 : one v0 = true) (v1 : Value) (h1 : one v1 = true) (w : World) : (Instr.build 215 #[(0, v0), (1, v1)]).run Try.prog w = .ok (.agg #[v0, v1]) w := by
  simp [Instr.build, Try.zeroValue215, Try.runUnderlying215, Try.sizeOf118, Try.sizeOf213, Instr.fill, cells_agg, sl, cells_one h0, cells_one h1]
theorem bld222_0_1_2_3 (v0 : Value) (h0 : one v0 = true) (v1 : Value) (h1 : one v1 = true) (v2 : Value) (h2 : one v2 = true) (v3 : Value) (h3 : one v3 = true) (w : World) : (Instr.build 222 #[(0, v0), (1, v1), (2, v2), (3, v3)]).run Try.prog w = .ok (.agg #[v0, v1, v2, v3]) w := by
  simp [Instr.build, Try.zeroValue222, Try.runUnderlying222, Try.sizeOf3, Instr.fill, cells_agg, sl, cells_one h0, cells_one h1, cells_one h2, cells_one h3]
theorem bld224_0 (v0 : Value) (h0 : one v0 = true) (w : World) : (Instr.build 224 #[(0, v0)]).run Try.prog w = .ok (.agg #[v0, I 0, I 0, I 0, I 0, .pointer none, sl none 0 0]) w := by
  simp [Instr.build, Try.zeroValue224, Try.runUnderlying224, Try.sizeOf109, Try.sizeOf222, Try.sizeOf41, Try.sizeOf50, Instr.fill, cells_agg, sl, cells_one h0]
theorem bld236_0_1_2 (v0 : Value) (h0 : one v0 = true) (v1 : Value) (h1 : one v1 = true) (v2 : Value) (h2 : one v2 = true) (w : World) : (Instr.build 236 #[(0, v0), (1, v1), (2, v2)]).run Try.prog w = .ok (.agg #[v0, v1, v2]) w := by
  simp [Instr.build, Try.zeroValue236, Try.runUnderlying236, Try.sizeOf139, Try.sizeOf234, Try.sizeOf3, Instr.fill, cells_agg, sl, cells_one h0, cells_one h1, cells_one h2]
theorem bld236_0_2 (v0 : Value) (h0 : one v0 = true) (v2 : Value) (h2 : one v2 = true) (w : World) : (Instr.build 236 #[(0, v0), (2, v2)]).run Try.prog w = .ok (.agg #[v0, sl none 0 0, v2]) w := by
  simp [Instr.build, Try.zeroValue236, Try.runUnderlying236, Try.sizeOf139, Try.sizeOf234, Try.sizeOf3, Instr.fill, cells_agg, sl, cells_one h0, cells_one h2]
theorem bld238_0_1_2 (v0 : Value) (h0 : one v0 = true) (v1 : Value) (h1 : one v1 = true) (v2 : Value) (h2 : one v2 = true) (w : World) : (Instr.build 238 #[(0, v0), (1, v1), (2, v2)]).run Try.prog w = .ok (.agg #[v0, v1, v2]) w := by
  simp [Instr.build, Try.zeroValue238, Try.runUnderlying238, Try.sizeOf120, Try.sizeOf234, Try.sizeOf3, Instr.fill, cells_agg, sl, cells_one h0, cells_one h1, cells_one h2]
theorem bld238_0_2 (v0 : Value) (h0 : one v0 = true) (v2 : Value) (h2 : one v2 = true) (w : World) : (Instr.build 238 #[(0, v0), (2, v2)]).run Try.prog w = .ok (.agg #[v0, sl none 0 0, v2]) w := by
  simp [Instr.build, Try.zeroValue238, Try.runUnderlying238, Try.sizeOf120, Try.sizeOf234, Try.sizeOf3, Instr.fill, cells_agg, sl, cells_one h0, cells_one h2]

end Go.Proofs.Ythdjckbjjfiopaa
