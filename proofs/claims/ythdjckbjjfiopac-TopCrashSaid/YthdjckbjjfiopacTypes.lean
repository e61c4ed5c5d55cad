/- Struct literals of the program's types. No condition. -/
import Derived.Test.YthdjckbjjfiopacSlA
import Derived.Test.YthdjckbjjfiopacProg
namespace Go.Proofs.Ythdjckbjjfiopac
open Go.Sl Go.Proofs
set_option linter.unusedVariables false
set_option linter.unusedSimpArgs false

theorem bld38_0_1 (v0 : Value) (h0 : one v0 = true) (v1 : Value) (h1 : one v1 = true) (w : World) : (Instr.build 38 #[(0, v0), (1, v1)]).run Try.prog w = .ok (.agg #[v0, v1]) w := by
  simp [Instr.build, Try.zeroValue38, Try.runUnderlying38, Try.sizeOf3, Try.sizeOf9, Instr.fill, cells_agg, sl, cells_one h0, cells_one h1]
theorem bld63_0_1 (v0 : Value) (h0 : one v0 = true) (v1 : Value) (h1 : one v1 = true) (w : World) : (Instr.build 63 #[(0, v0), (1, v1)]).run Try.prog w = .ok (.agg #[v0, v1]) w := by
  simp [Instr.build, Try.zeroValue63, Try.runUnderlying63, Try.sizeOf41, Try.sizeOf61, Instr.fill, cells_agg, sl, cells_one h0, cells_one h1]
theorem bld86_0_1_2_3 (v0 : Value) (h0 : one v0 = true) (v1 : Value) (h1 : one v1 = true) (v2 : Value) (h2 : one v2 = true) (v3 : Value) (h3 : one v3 = true) (w : World) : (Instr.build 86 #[(0, v0), (1, v1), (2, v2), (3, v3)]).run Try.prog w = .ok (.agg #[v0, v1, v2, v3]) w := by
  simp [Instr.build, Try.zeroValue86, Try.runUnderlying86, Try.sizeOf3, Instr.fill, cells_agg, sl, cells_one h0, cells_one h1, cells_one h2, cells_one h3]
theorem bld91_0_1_2 (v0 : Value) (h0 : one v0 = true) (v1 : Value) (h1 : one v1 = true) (v2 : Value) (h2 : one v2 = true) (w : World) : (Instr.build 91 #[(0, v0), (1, v1), (2, v2)]).run Try.prog w = .ok (.agg #[v0, v1, v2]) w := by
  simp [Instr.build, Try.zeroValue91, Try.runUnderlying91, Try.sizeOf3, Try.sizeOf57, Try.sizeOf89, Instr.fill, cells_agg, sl, cells_one h0, cells_one h1, cells_one h2]
theorem bld91_0_2 (v0 : Value) (h0 : one v0 = true) (v2 : Value) (h2 : one v2 = true) (w : World) : (Instr.build 91 #[(0, v0), (2, v2)]).run Try.prog w = .ok (.agg #[v0, sl none 0 0, v2]) w := by
  simp [Instr.build, Try.zeroValue91, Try.runUnderlying91, Try.sizeOf3, Try.sizeOf57, Try.sizeOf89, Instr.fill, cells_agg, sl, cells_one h0, cells_one h2]
theorem bld98_0 (v0 : Value) (h0 : one v0 = true) (w : World) : (Instr.build 98 #[(0, v0)]).run Try.prog w = .ok (.agg #[v0]) w := by
  simp [Instr.build, Try.zeroValue98, Try.runUnderlying98, Try.sizeOf96, Instr.fill, cells_agg, sl, cells_one h0]
theorem bld100_0_1 (v0 : Value) (h0 : one v0 = true) (v1 : Value) (h1 : one v1 = true) (w : World) : (Instr.build 100 #[(0, v0), (1, v1)]).run Try.prog w = .ok (.agg #[v0, v1]) w := by
  simp [Instr.build, Try.zeroValue100, Try.runUnderlying100, Try.sizeOf3, Try.sizeOf9, Instr.fill, cells_agg, sl, cells_one h0, cells_one h1]
theorem bld111_0_1 (v0 : Value) (h0 : one v0 = true) (v1 : Value) (h1 : one v1 = true) (w : World) : (Instr.build 111 #[(0, v0), (1, v1)]).run Try.prog w = .ok (.agg #[v0, v1, Bo false]) w := by
  simp [Instr.build, Try.zeroValue111, Try.runUnderlying111, Try.sizeOf4, Try.sizeOf9, Instr.fill, cells_agg, sl, cells_one h0, cells_one h1]
theorem bld111_0_1_2 (v0 : Value) (h0 : one v0 = true) (v1 : Value) (h1 : one v1 = true) (v2 : Value) (h2 : one v2 = true) (w : World) : (Instr.build 111 #[(0, v0), (1, v1), (2, v2)]).run Try.prog w = .ok (.agg #[v0, v1, v2]) w := by
  simp [Instr.build, Try.zeroValue111, Try.runUnderlying111, Try.sizeOf4, Try.sizeOf9, Instr.fill, cells_agg, sl, cells_one h0, cells_one h1, cells_one h2]
theorem bld117_0_1_3 (v0 : Value) (h0 : one v0 = true) (v1 : Value) (h1 : one v1 = true) (v3 : Value) (h3 : one v3 = true) (w : World) : (Instr.build 117 #[(0, v0), (1, v1), (3, v3)]).run Try.prog w = .ok (.agg #[v0, v1, sl none 0 0, v3, Bo false]) w := by
  simp [Instr.build, Try.zeroValue117, Try.runUnderlying117, Try.sizeOf115, Try.sizeOf28, Try.sizeOf3, Try.sizeOf4, Instr.fill, cells_agg, sl, cells_one h0, cells_one h1, cells_one h3]
theorem bld120_0_1_2_3 (v0 : Value) (h0 : one v0 = true) (v1 : Value) (h1 : one v1 = true) (v2 : Value) (h2 : one v2 = true) (v3 : Value) (h3 : one v3 = true) (w : World) : (Instr.build 120 #[(0, v0), (1, v1), (2, v2), (3, v3)]).run Try.prog w = .ok (.agg #[v0, v1, v2, v3]) w := by
  simp [Instr.build, Try.zeroValue120, Try.runUnderlying120, Try.sizeOf3, Instr.fill, cells_agg, sl, cells_one h0, cells_one h1, cells_one h2, cells_one h3]
theorem bld123_0 (v0 : Value) (h0 : one v0 = true) (w : World) : (Instr.build 123 #[(0, v0)]).run Try.prog w = .ok (.agg #[v0, I 0, I 0, I 0, I 0, .pointer none, sl none 0 0]) w := by
  simp [Instr.build, Try.zeroValue123, Try.runUnderlying123, Try.sizeOf120, Try.sizeOf121, Try.sizeOf49, Try.sizeOf69, Instr.fill, cells_agg, sl, cells_one h0]
theorem bld135_0_1 (v0 : Value) (h0 : one v0 = true) (v1 : Value) (h1 : one v1 = true) (w : World) : (Instr.build 135 #[(0, v0), (1, v1)]).run Try.prog w = .ok (.agg #[v0, v1]) w := by
  simp [Instr.build, Try.zeroValue135, Try.runUnderlying135, Try.sizeOf3, Try.sizeOf9, Instr.fill, cells_agg, sl, cells_one h0, cells_one h1]
theorem bld154_0_1_2_3 (v0 : Value) (h0 : one v0 = true) (v1 : Value) (h1 : one v1 = true) (v2 : Value) (h2 : one v2 = true) (v3 : Value) (h3 : one v3 = true) (w : World) : (Instr.build 154 #[(0, v0), (1, v1), (2, v2), (3, v3)]).run Try.prog w = .ok (.agg #[v0, v1, v2, v3, I 0]) w := by
  simp [Instr.build, Try.zeroValue154, Try.runUnderlying154, Try.sizeOf3, Try.sizeOf69, Instr.fill, cells_agg, sl, cells_one h0, cells_one h1, cells_one h2, cells_one h3]

end Go.Proofs.Ythdjckbjjfiopac
