/-
  DERIVED: THE SHELF's CONTRACTS AT THIS DUMP, IN PLAIN WORDS (tools/lay-plain.mjs out of 'TryShelf.lean', which tools/lay-shelf.mjs wrote): THE SAME DECLARATIONS UNDER THE SAME NAMES: 'import', 'namespace', 'open', 'def', 'theorem' AND NOTHING ELSE: no command of the shelf's: FOR A HAND-IN. Each laying: the table of numbers ('.._ren') and one theorem, a field a fact of the dump's own or the kernel's comparison; each contract: ONE APPLICATION.
-/
import Derived.Shelf.Sort.Plain
import Derived.Shelf.Slices.In.SortNone
import Derived.Test.YthdjckbjjfiopaaProg
namespace Go.Proofs
open Go.Shelf
def Try.lays189_ren : Go.Shelf.Ren := ⟨fun | 189 => 157 | 125 => 192 | 257 => 191 | 128 => 217 | 129 => 218 | 294 => 208 | 295 => 209 | 296 => 210 | 297 => 211 | 298 => 212 | 299 => 213 | 216 => 214 | 300 => 215 | 301 => 216 | 328 => 221 | 329 => 222 | 330 => 223 | 331 => 224 | 332 => 225 | 215 => 226 | 343 => 228 | n => n, fun | 28 => 90 | 3 => 3 | 46 => 189 | 0 => 0 | 51 => 262 | 53 => 48 | 4 => 4 | 183 => 269 | 182 => 268 | 131 => 199 | 5 => 5 | 9 => 9 | 218 => 279 | 222 => 283 | 228 => 288 | 229 => 75 | n => n, fun | n => n⟩
theorem Try.lays189 : Go.Proofs.Lays.n189 Try.prog Try.lays189_ren := {
  mixed := by kernel_rfl
  f125 := Try.func192.trans (congrArg some (by kernel_rfl))
  f128 := Try.func217.trans (congrArg some (by kernel_rfl))
  f129 := Try.func218.trans (congrArg some (by kernel_rfl))
  f189 := Try.func157.trans (congrArg some (by kernel_rfl))
  f215 := Try.func226.trans (congrArg some (by kernel_rfl))
  f216 := Try.func214.trans (congrArg some (by kernel_rfl))
  f257 := Try.func191.trans (congrArg some (by kernel_rfl))
  f294 := Try.func208.trans (congrArg some (by kernel_rfl))
  f295 := Try.func209.trans (congrArg some (by kernel_rfl))
  f296 := Try.func210.trans (congrArg some (by kernel_rfl))
  f297 := Try.func211.trans (congrArg some (by kernel_rfl))
  f298 := Try.func212.trans (congrArg some (by kernel_rfl))
  f299 := Try.func213.trans (congrArg some (by kernel_rfl))
  f300 := Try.func215.trans (congrArg some (by kernel_rfl))
  f301 := Try.func216.trans (congrArg some (by kernel_rfl))
  f328 := Try.func221.trans (congrArg some (by kernel_rfl))
  f329 := Try.func222.trans (congrArg some (by kernel_rfl))
  f330 := Try.func223.trans (congrArg some (by kernel_rfl))
  f331 := Try.func224.trans (congrArg some (by kernel_rfl))
  f332 := Try.func225.trans (congrArg some (by kernel_rfl))
  f343 := Try.func228.trans (congrArg some (by kernel_rfl))
  t0 := Try.underlying0
  a0 := Try.isAgg0
  z0 := Try.sizeOf0
  v0 := Try.zeroValue0
  t3 := Try.underlying3
  a3 := Try.isAgg3
  z3 := Try.sizeOf3
  v3 := Try.zeroValue3
  t4 := Try.underlying4
  a4 := Try.isAgg4
  z4 := Try.sizeOf4
  v4 := Try.zeroValue4
  t5 := Try.underlying5
  a5 := Try.isAgg5
  z5 := Try.sizeOf5
  v5 := Try.zeroValue5
  t9 := Try.underlying9
  a9 := Try.isAgg9
  z9 := Try.sizeOf9
  v9 := Try.zeroValue9
  t28 := Try.underlying90
  a28 := Try.isAgg90
  z28 := Try.sizeOf90
  v28 := Try.zeroValue90
  t46 := Try.underlying189
  a46 := Try.isAgg189
  z46 := Try.sizeOf189
  v46 := Try.zeroValue189
  t51 := Try.underlying262
  a51 := Try.isAgg262
  z51 := Try.sizeOf262
  v51 := Try.zeroValue262
  t53 := Try.underlying48
  a53 := Try.isAgg48
  z53 := Try.sizeOf48
  v53 := Try.zeroValue48
  t131 := Try.underlying199
  a131 := Try.isAgg199
  z131 := Try.sizeOf199
  v131 := Try.zeroValue199
  t182 := Try.underlying268
  a182 := Try.isAgg268
  z182 := Try.sizeOf268
  v182 := Try.zeroValue268
  t183 := Try.underlying269
  a183 := Try.isAgg269
  z183 := Try.sizeOf269
  v183 := Try.zeroValue269
  t218 := Try.underlying279
  a218 := Try.isAgg279
  z218 := Try.sizeOf279
  v218 := Try.zeroValue279
  t222 := Try.underlying283
  a222 := Try.isAgg283
  z222 := Try.sizeOf283
  v222 := Try.zeroValue283
  t228 := Try.underlying288
  a228 := Try.isAgg288
  z228 := Try.sizeOf288
  v228 := Try.zeroValue288
  t229 := Try.underlying75
  a229 := Try.isAgg75
  z229 := Try.sizeOf75
  v229 := Try.zeroValue75 }
open Go.Sort Go.RowKit in
theorem Try.slices_Sort_int (blk off cap : Nat) (zs : List Int) (w : World) (hH : Holds (Value.int .i64) w blk off zs.toArray) (hblk : blk < w.heap.size) (hsz : zs.length < 4611686018427387904) :
    Calls Try.prog 157 #[.slice (some ⟨blk, off, none⟩) zs.length cap] w fun e w' =>
      e = .returned (.tuple #[]) ∧ ∃ n os, w' = grow (putRow (Value.int .i64) (Sort.ahead w n) blk off (zs.mergeSort fun x y => decide (x ≤ y)).toArray) os := Any.slices_Sort_int Try.lays189 blk off cap zs w hH hblk hsz
open Go.RowKit Go.Sort in
/-- .. and plain. (LAID: no walk: one application.) -/
theorem Try.slices_Sort_int_none (p : Option Addr) (cap : Nat) (w : World) :
    Calls Try.prog 157 #[.slice p 0 cap] w fun e w' => e = .returned (.tuple #[]) ∧ w' = w := Any.slices_Sort_int_none Try.lays189 p cap w
end Go.Proofs
