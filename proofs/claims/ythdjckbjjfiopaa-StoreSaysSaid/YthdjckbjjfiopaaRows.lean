/-
  No cell of these rows narrows 'for every input' (looked for: loops, veiled, ifaces, maps, wideKeys, modest, calm, conditions, laid).
  DERIVED. THE GIVEN ROWS OF THIS SEAT. 10 by the template 'for every input the law returns true; each argument reads behind the call as it read before'; 0 by the template 'total and deterministic' (their statements: YthdjckbjjfiopaaTotals.lean).
  GIVEN WITH THE SEED: the statements are not yours to turn. If you find one false, say at which input.
  Laid BY PROGRAM, IN A SANDBOX (cutbox-rows.mjs): the forced cells as the released guide's own fill.sh prints them over the translation af429e9e29d840da… (all of the seat's roots in one cut). By AI agents, Wed Nov 11 2026. No macro, syntax, notation, axiom, sorry.
-/
import Derived.Test.YthdjckbjjfiopaaChecked
import GoSem.Claim
import GoSem.ClaimJoined
import GoSem.ClaimMapViews
import Derived.JoinedTies
import Derived.KernelRfl
namespace Go.Proofs.Ythdjckbjjfiopaa
/- THE CELL 'sum', in the pinned program and in every row, IS THE sha256 OF THE DUMP (.gsa) THAT YthdjckbjjfiopaaProg.lean LOADS. Nothing in Lean hashes anything: it is a label: what it is worth is what the hold of that sum in a sandbox is worth. -/
noncomputable def Try.pinned : Pinned := { name := "ythdjckbjjfiopaa", sum := "af429e9e29d840da2054f01d232ca2a7bfc25f31e4f4510a081afb02998bb298", checked := Try.checked }
namespace Rows
def none {H : Type} : Left H := { results := [], args := [] }

/-- 'counterfoillaw.AreaSays': WHATEVER THE INPUT: true; the input reads as it did. -/
def areaSaysSpec : ChangeSpec := { name := "areaSays", fn := fun _ => fun
  | [d1, d2, d3, d4] => { results := [.lit (.bool true)], args := [d1, d2, d3, d4] }
  | _ => none }
def areaSaysRow : OpenClaim := { program := "ythdjckbjjfiopaa", sum := "af429e9e29d840da2054f01d232ca2a7bfc25f31e4f4510a081afb02998bb298", func := "counterfoil/counterfoillaw.AreaSays", spec := "areaSays", apart := false }
def AreaSaysSaid : Prop := areaSaysRow.holds Try.pinned (OpenSpec.ofChange areaSaysSpec)

/-- ITS FALSE NEIGHBOUR: 'it returns false'. Refute it at one input. -/
def areaSaysWrong : ChangeSpec := { name := "areaSays", fn := fun _ => fun
  | [d1, d2, d3, d4] => { results := [.lit (.bool false)], args := [d1, d2, d3, d4] }
  | _ => none }
def AreaSaysWrongFalsely : Prop := areaSaysRow.holds Try.pinned (OpenSpec.ofChange areaSaysWrong)

/-- 'counterfoillaw.DiskSays': WHATEVER THE INPUT: true; the input reads as it did. -/
def diskSaysSpec : ChangeSpec := { name := "diskSays", fn := fun _ => fun
  | [d1, d2] => { results := [.lit (.bool true)], args := [d1, d2] }
  | _ => none }
def diskSaysRow : OpenClaim := { program := "ythdjckbjjfiopaa", sum := "af429e9e29d840da2054f01d232ca2a7bfc25f31e4f4510a081afb02998bb298", func := "counterfoil/counterfoillaw.DiskSays", spec := "diskSays", apart := false }
def DiskSaysSaid : Prop := diskSaysRow.holds Try.pinned (OpenSpec.ofChange diskSaysSpec)

/-- ITS FALSE NEIGHBOUR: 'it returns false'. Refute it at one input. -/
def diskSaysWrong : ChangeSpec := { name := "diskSays", fn := fun _ => fun
  | [d1, d2] => { results := [.lit (.bool false)], args := [d1, d2] }
  | _ => none }
def DiskSaysWrongFalsely : Prop := diskSaysRow.holds Try.pinned (OpenSpec.ofChange diskSaysWrong)

/-- 'counterfoillaw.VdiskSays': WHATEVER THE INPUT: true; the input reads as it did. -/
def vdiskSaysSpec : ChangeSpec := { name := "vdiskSays", fn := fun _ => fun
  | [d1, d2] => { results := [.lit (.bool true)], args := [d1, d2] }
  | _ => none }
def vdiskSaysRow : OpenClaim := { program := "ythdjckbjjfiopaa", sum := "af429e9e29d840da2054f01d232ca2a7bfc25f31e4f4510a081afb02998bb298", func := "counterfoil/counterfoillaw.VdiskSays", spec := "vdiskSays", unfollowed := true, recurses := true, apart := false }
def VdiskSaysSaid : Prop := vdiskSaysRow.holds Try.pinned (OpenSpec.ofChange vdiskSaysSpec)

/-- ITS FALSE NEIGHBOUR: 'it returns false'. Refute it at one input. -/
def vdiskSaysWrong : ChangeSpec := { name := "vdiskSays", fn := fun _ => fun
  | [d1, d2] => { results := [.lit (.bool false)], args := [d1, d2] }
  | _ => none }
def VdiskSaysWrongFalsely : Prop := vdiskSaysRow.holds Try.pinned (OpenSpec.ofChange vdiskSaysWrong)

/-- 'counterfoillaw.RowSays': WHATEVER THE INPUT: true; the input reads as it did. -/
def rowSaysSpec : ChangeSpec := { name := "rowSays", fn := fun _ => fun
  | [d1, d2, d3, d4] => { results := [.lit (.bool true)], args := [d1, d2, d3, d4] }
  | _ => none }
def rowSaysRow : OpenClaim := { program := "ythdjckbjjfiopaa", sum := "af429e9e29d840da2054f01d232ca2a7bfc25f31e4f4510a081afb02998bb298", func := "counterfoil/counterfoillaw.RowSays", spec := "rowSays", inPlace := ["internal/bytealg.abigen_runtime_cmpstring", "slices.overlaps[counterfoil/api.Change]"], unfollowed := true, recurses := true, apart := false }
def RowSaysSaid : Prop := rowSaysRow.holds Try.pinned (OpenSpec.ofChange rowSaysSpec)

/-- ITS FALSE NEIGHBOUR: 'it returns false'. Refute it at one input. -/
def rowSaysWrong : ChangeSpec := { name := "rowSays", fn := fun _ => fun
  | [d1, d2, d3, d4] => { results := [.lit (.bool false)], args := [d1, d2, d3, d4] }
  | _ => none }
def RowSaysWrongFalsely : Prop := rowSaysRow.holds Try.pinned (OpenSpec.ofChange rowSaysWrong)

/-- 'counterfoillaw.LogSays': WHATEVER THE INPUT: true; the input reads as it did. -/
def logSaysSpec : ChangeSpec := { name := "logSays", fn := fun _ => fun
  | [d1, d2, d3, d4, d5] => { results := [.lit (.bool true)], args := [d1, d2, d3, d4, d5] }
  | _ => none }
def logSaysRow : OpenClaim := { program := "ythdjckbjjfiopaa", sum := "af429e9e29d840da2054f01d232ca2a7bfc25f31e4f4510a081afb02998bb298", func := "counterfoil/counterfoillaw.LogSays", spec := "logSays", unfollowed := true, recurses := true, apart := false }
def LogSaysSaid : Prop := logSaysRow.holds Try.pinned (OpenSpec.ofChange logSaysSpec)

/-- ITS FALSE NEIGHBOUR: 'it returns false'. Refute it at one input. -/
def logSaysWrong : ChangeSpec := { name := "logSays", fn := fun _ => fun
  | [d1, d2, d3, d4, d5] => { results := [.lit (.bool false)], args := [d1, d2, d3, d4, d5] }
  | _ => none }
def LogSaysWrongFalsely : Prop := logSaysRow.holds Try.pinned (OpenSpec.ofChange logSaysWrong)

/-- 'counterfoillaw.PoolSays': WHATEVER THE INPUT: true; the input reads as it did. -/
def poolSaysSpec : ChangeSpec := { name := "poolSays", fn := fun _ => fun
  | [d] => { results := [.lit (.bool true)], args := [d] }
  | _ => none }
def poolSaysRow : OpenClaim := { program := "ythdjckbjjfiopaa", sum := "af429e9e29d840da2054f01d232ca2a7bfc25f31e4f4510a081afb02998bb298", func := "counterfoil/counterfoillaw.PoolSays", spec := "poolSays", recurses := true, apart := false }
def PoolSaysSaid : Prop := poolSaysRow.holds Try.pinned (OpenSpec.ofChange poolSaysSpec)

/-- ITS FALSE NEIGHBOUR: 'it returns false'. Refute it at one input. -/
def poolSaysWrong : ChangeSpec := { name := "poolSays", fn := fun _ => fun
  | [d] => { results := [.lit (.bool false)], args := [d] }
  | _ => none }
def PoolSaysWrongFalsely : Prop := poolSaysRow.holds Try.pinned (OpenSpec.ofChange poolSaysWrong)

/-- 'counterfoillaw.IndexSays': WHATEVER THE INPUT: true; the input reads as it did. -/
def indexSaysSpec : ChangeSpec := { name := "indexSays", fn := fun _ => fun
  | [d] => { results := [.lit (.bool true)], args := [d] }
  | _ => none }
def indexSaysRow : OpenClaim := { program := "ythdjckbjjfiopaa", sum := "af429e9e29d840da2054f01d232ca2a7bfc25f31e4f4510a081afb02998bb298", func := "counterfoil/counterfoillaw.IndexSays", spec := "indexSays", recurses := true, apart := false }
def IndexSaysSaid : Prop := indexSaysRow.holds Try.pinned (OpenSpec.ofChange indexSaysSpec)

/-- ITS FALSE NEIGHBOUR: 'it returns false'. Refute it at one input. -/
def indexSaysWrong : ChangeSpec := { name := "indexSays", fn := fun _ => fun
  | [d] => { results := [.lit (.bool false)], args := [d] }
  | _ => none }
def IndexSaysWrongFalsely : Prop := indexSaysRow.holds Try.pinned (OpenSpec.ofChange indexSaysWrong)

/-- 'counterfoillaw.StoreSays': WHATEVER THE INPUT: true; the input reads as it did. -/
def storeSaysSpec : ChangeSpec := { name := "storeSays", fn := fun _ => fun
  | [d1, d2] => { results := [.lit (.bool true)], args := [d1, d2] }
  | _ => none }
def storeSaysRow : OpenClaim := { program := "ythdjckbjjfiopaa", sum := "af429e9e29d840da2054f01d232ca2a7bfc25f31e4f4510a081afb02998bb298", func := "counterfoil/counterfoillaw.StoreSays", spec := "storeSays", inPlace := ["internal/bytealg.abigen_runtime_cmpstring", "slices.overlaps[counterfoil/api.Change]", "internal/abi.NoEscape"], unfollowed := true, recurses := true, apart := false }
def StoreSaysSaid : Prop := storeSaysRow.holds Try.pinned (OpenSpec.ofChange storeSaysSpec)

/-- ITS FALSE NEIGHBOUR: 'it returns false'. Refute it at one input. -/
def storeSaysWrong : ChangeSpec := { name := "storeSays", fn := fun _ => fun
  | [d1, d2] => { results := [.lit (.bool false)], args := [d1, d2] }
  | _ => none }
def StoreSaysWrongFalsely : Prop := storeSaysRow.holds Try.pinned (OpenSpec.ofChange storeSaysWrong)

/-- 'counterfoillaw.VaultSays': WHATEVER THE INPUT: true; the input reads as it did. -/
def vaultSaysSpec : ChangeSpec := { name := "vaultSays", fn := fun _ => fun
  | [d] => { results := [.lit (.bool true)], args := [d] }
  | _ => none }
def vaultSaysRow : OpenClaim := { program := "ythdjckbjjfiopaa", sum := "af429e9e29d840da2054f01d232ca2a7bfc25f31e4f4510a081afb02998bb298", func := "counterfoil/counterfoillaw.VaultSays", spec := "vaultSays", unfollowed := true, recurses := true, apart := false }
def VaultSaysSaid : Prop := vaultSaysRow.holds Try.pinned (OpenSpec.ofChange vaultSaysSpec)

/-- ITS FALSE NEIGHBOUR: 'it returns false'. Refute it at one input. -/
def vaultSaysWrong : ChangeSpec := { name := "vaultSays", fn := fun _ => fun
  | [d] => { results := [.lit (.bool false)], args := [d] }
  | _ => none }
def VaultSaysWrongFalsely : Prop := vaultSaysRow.holds Try.pinned (OpenSpec.ofChange vaultSaysWrong)

/-- 'counterfoiltop.TopArea': WHATEVER THE INPUT: true; the input reads as it did. -/
def topAreaSpec : ChangeSpec := { name := "topArea", fn := fun _ => fun
  | [d1, d2, d3, d4, d5] => { results := [.lit (.bool true)], args := [d1, d2, d3, d4, d5] }
  | _ => none }
def topAreaRow : OpenClaim := { program := "ythdjckbjjfiopaa", sum := "af429e9e29d840da2054f01d232ca2a7bfc25f31e4f4510a081afb02998bb298", func := "counterfoil/counterfoiltop.TopArea", spec := "topArea", apart := false }
def TopAreaSaid : Prop := topAreaRow.holds Try.pinned (OpenSpec.ofChange topAreaSpec)

/-- ITS FALSE NEIGHBOUR: 'it returns false'. Refute it at one input. -/
def topAreaWrong : ChangeSpec := { name := "topArea", fn := fun _ => fun
  | [d1, d2, d3, d4, d5] => { results := [.lit (.bool false)], args := [d1, d2, d3, d4, d5] }
  | _ => none }
def TopAreaWrongFalsely : Prop := topAreaRow.holds Try.pinned (OpenSpec.ofChange topAreaWrong)

/- THE SECOND FORM. 'bulk': how many values and letters a reading holds, each counted each time it is reached (what is shared counts as often as it is met; a slice's spare places count too). A statement '..UptoSaid' is the law's where the arguments, and the package variables that the reading takes, are together of bulk at most 1048576: NARROWER than '..Said'. Prove '..Said' where nothing that the law and all that it calls make is longer than what came in: it says more and counts as full. Else prove '..UptoSaid'. A law counts once. -/
mutual
def uptoBulk {H : Type} : DataW H → Nat
  | .lit (.string bytes) => bytes.length + 1
  | .lit _ => 1
  | .nil => 1
  | .ptr d => uptoBulk d + 1
  | .slice elems spare => uptoBulkAll elems + uptoBulkAll spare + 1
  | .agg parts => uptoBulkAll parts + 1
  | .iface _ d => uptoBulk d + 1
  | .map entries => uptoBulkEntries entries + 1
  | .held _ => 1
def uptoBulkAll {H : Type} : List (DataW H) → Nat
  | [] => 0
  | d :: r => uptoBulk d + uptoBulkAll r
def uptoBulkEntries {H : Type} : List (Lit × DataW H) → Nat
  | [] => 0
  | x :: r => uptoBulkEntry x + uptoBulkEntries r
def uptoBulkEntry {H : Type} : Lit × DataW H → Nat
  | (.string bytes, d) => bytes.length + uptoBulk d + 1
  | (_, d) => uptoBulk d + 1
 end
def uptoSmall : (H : Type) → List (DataW H) → Bool := fun _ ds => decide (uptoBulkAll ds ≤ 1048576)
def OpenSpec.upto (s : _root_.Go.ChangeSpec) : _root_.Go.OpenSpec := { _root_.Go.OpenSpec.ofChange s with cond := some uptoSmall }

/-- 'counterfoillaw.AreaSays', WHERE WHAT IT READS IS OF BULK AT MOST 1048576: true; the input reads as it did. -/
def areaSaysUptoRow : OpenClaim := { program := "ythdjckbjjfiopaa", sum := "af429e9e29d840da2054f01d232ca2a7bfc25f31e4f4510a081afb02998bb298", func := "counterfoil/counterfoillaw.AreaSays", spec := "areaSays", apart := false, narrowed := true }
def AreaSaysUptoSaid : Prop := areaSaysUptoRow.holds Try.pinned (OpenSpec.upto areaSaysSpec)

/-- 'counterfoillaw.DiskSays', WHERE WHAT IT READS IS OF BULK AT MOST 1048576: true; the input reads as it did. -/
def diskSaysUptoRow : OpenClaim := { program := "ythdjckbjjfiopaa", sum := "af429e9e29d840da2054f01d232ca2a7bfc25f31e4f4510a081afb02998bb298", func := "counterfoil/counterfoillaw.DiskSays", spec := "diskSays", apart := false, narrowed := true }
def DiskSaysUptoSaid : Prop := diskSaysUptoRow.holds Try.pinned (OpenSpec.upto diskSaysSpec)

/-- 'counterfoillaw.VdiskSays', WHERE WHAT IT READS IS OF BULK AT MOST 1048576: true; the input reads as it did. -/
def vdiskSaysUptoRow : OpenClaim := { program := "ythdjckbjjfiopaa", sum := "af429e9e29d840da2054f01d232ca2a7bfc25f31e4f4510a081afb02998bb298", func := "counterfoil/counterfoillaw.VdiskSays", spec := "vdiskSays", unfollowed := true, recurses := true, apart := false, narrowed := true }
def VdiskSaysUptoSaid : Prop := vdiskSaysUptoRow.holds Try.pinned (OpenSpec.upto vdiskSaysSpec)

/-- 'counterfoillaw.RowSays', WHERE WHAT IT READS IS OF BULK AT MOST 1048576: true; the input reads as it did. -/
def rowSaysUptoRow : OpenClaim := { program := "ythdjckbjjfiopaa", sum := "af429e9e29d840da2054f01d232ca2a7bfc25f31e4f4510a081afb02998bb298", func := "counterfoil/counterfoillaw.RowSays", spec := "rowSays", inPlace := ["internal/bytealg.abigen_runtime_cmpstring", "slices.overlaps[counterfoil/api.Change]"], unfollowed := true, recurses := true, apart := false, narrowed := true }
def RowSaysUptoSaid : Prop := rowSaysUptoRow.holds Try.pinned (OpenSpec.upto rowSaysSpec)

/-- 'counterfoillaw.LogSays', WHERE WHAT IT READS IS OF BULK AT MOST 1048576: true; the input reads as it did. -/
def logSaysUptoRow : OpenClaim := { program := "ythdjckbjjfiopaa", sum := "af429e9e29d840da2054f01d232ca2a7bfc25f31e4f4510a081afb02998bb298", func := "counterfoil/counterfoillaw.LogSays", spec := "logSays", unfollowed := true, recurses := true, apart := false, narrowed := true }
def LogSaysUptoSaid : Prop := logSaysUptoRow.holds Try.pinned (OpenSpec.upto logSaysSpec)

/-- 'counterfoillaw.PoolSays', WHERE WHAT IT READS IS OF BULK AT MOST 1048576: true; the input reads as it did. -/
def poolSaysUptoRow : OpenClaim := { program := "ythdjckbjjfiopaa", sum := "af429e9e29d840da2054f01d232ca2a7bfc25f31e4f4510a081afb02998bb298", func := "counterfoil/counterfoillaw.PoolSays", spec := "poolSays", recurses := true, apart := false, narrowed := true }
def PoolSaysUptoSaid : Prop := poolSaysUptoRow.holds Try.pinned (OpenSpec.upto poolSaysSpec)

/-- 'counterfoillaw.IndexSays', WHERE WHAT IT READS IS OF BULK AT MOST 1048576: true; the input reads as it did. -/
def indexSaysUptoRow : OpenClaim := { program := "ythdjckbjjfiopaa", sum := "af429e9e29d840da2054f01d232ca2a7bfc25f31e4f4510a081afb02998bb298", func := "counterfoil/counterfoillaw.IndexSays", spec := "indexSays", recurses := true, apart := false, narrowed := true }
def IndexSaysUptoSaid : Prop := indexSaysUptoRow.holds Try.pinned (OpenSpec.upto indexSaysSpec)

/-- 'counterfoillaw.StoreSays', WHERE WHAT IT READS IS OF BULK AT MOST 1048576: true; the input reads as it did. -/
def storeSaysUptoRow : OpenClaim := { program := "ythdjckbjjfiopaa", sum := "af429e9e29d840da2054f01d232ca2a7bfc25f31e4f4510a081afb02998bb298", func := "counterfoil/counterfoillaw.StoreSays", spec := "storeSays", inPlace := ["internal/bytealg.abigen_runtime_cmpstring", "slices.overlaps[counterfoil/api.Change]", "internal/abi.NoEscape"], unfollowed := true, recurses := true, apart := false, narrowed := true }
def StoreSaysUptoSaid : Prop := storeSaysUptoRow.holds Try.pinned (OpenSpec.upto storeSaysSpec)

/-- 'counterfoillaw.VaultSays', WHERE WHAT IT READS IS OF BULK AT MOST 1048576: true; the input reads as it did. -/
def vaultSaysUptoRow : OpenClaim := { program := "ythdjckbjjfiopaa", sum := "af429e9e29d840da2054f01d232ca2a7bfc25f31e4f4510a081afb02998bb298", func := "counterfoil/counterfoillaw.VaultSays", spec := "vaultSays", unfollowed := true, recurses := true, apart := false, narrowed := true }
def VaultSaysUptoSaid : Prop := vaultSaysUptoRow.holds Try.pinned (OpenSpec.upto vaultSaysSpec)

/-- 'counterfoiltop.TopArea', WHERE WHAT IT READS IS OF BULK AT MOST 1048576: true; the input reads as it did. -/
def topAreaUptoRow : OpenClaim := { program := "ythdjckbjjfiopaa", sum := "af429e9e29d840da2054f01d232ca2a7bfc25f31e4f4510a081afb02998bb298", func := "counterfoil/counterfoiltop.TopArea", spec := "topArea", apart := false, narrowed := true }
def TopAreaUptoSaid : Prop := topAreaUptoRow.holds Try.pinned (OpenSpec.upto topAreaSpec)

end Rows
end Go.Proofs.Ythdjckbjjfiopaa
