/-
  No cell of these rows narrows 'for every input' (looked for: loops, veiled, ifaces, maps, wideKeys, modest, calm, conditions, laid).
  DERIVED. THE GIVEN ROWS OF THIS SEAT. 5 by the template 'for every input the law returns true; each argument reads behind the call as it read before'; 0 by the template 'total and deterministic' (their statements: YthdjckbjjfiopacTotals.lean).
  GIVEN WITH THE SEED: the statements are not yours to turn. If you find one false, say at which input.
  Laid BY PROGRAM, IN A SANDBOX (cutbox-rows.mjs): the forced cells as the released guide's own fill.sh prints them over the translation 8fc77302f1ac132f… (all of the seat's roots in one cut). By AI agents, Wed Nov 11 2026. No macro, syntax, notation, axiom, sorry.
-/
import Derived.Test.YthdjckbjjfiopacChecked
import GoSem.Claim
import GoSem.ClaimJoined
import GoSem.ClaimMapViews
import Derived.JoinedTies
import Derived.KernelRfl
namespace Go.Proofs.Ythdjckbjjfiopac
/- THE CELL 'sum', in the pinned program and in every row, IS THE sha256 OF THE DUMP (.gsa) THAT YthdjckbjjfiopacProg.lean LOADS. Nothing in Lean hashes anything: it is a label: what it is worth is what the hold of that sum in a sandbox is worth. -/
noncomputable def Try.pinned : Pinned := { name := "ythdjckbjjfiopac", sum := "8fc77302f1ac132f74c06cbee329e345db81931da73c006987ac72a5f8fe2a15", checked := Try.checked }
namespace Rows
def none {H : Type} : Left H := { results := [], args := [] }

/-- 'counterfoiltop.TopIngest': WHATEVER THE INPUT: true; the input reads as it did. -/
def topIngestSpec : ChangeSpec := { name := "topIngest", fn := fun _ => fun
  | [d1, d2, d3, d4, d5] => { results := [.lit (.bool true)], args := [d1, d2, d3, d4, d5] }
  | _ => none }
def topIngestRow : OpenClaim := { program := "ythdjckbjjfiopac", sum := "8fc77302f1ac132f74c06cbee329e345db81931da73c006987ac72a5f8fe2a15", func := "counterfoil/counterfoiltop.TopIngest", spec := "topIngest", unfollowed := true, recurses := true, apart := false }
def TopIngestSaid : Prop := topIngestRow.holds Try.pinned (OpenSpec.ofChange topIngestSpec)

/-- ITS FALSE NEIGHBOUR: 'it returns false'. Refute it at one input. -/
def topIngestWrong : ChangeSpec := { name := "topIngest", fn := fun _ => fun
  | [d1, d2, d3, d4, d5] => { results := [.lit (.bool false)], args := [d1, d2, d3, d4, d5] }
  | _ => none }
def TopIngestWrongFalsely : Prop := topIngestRow.holds Try.pinned (OpenSpec.ofChange topIngestWrong)

/-- 'counterfoiltop.TopPool': WHATEVER THE INPUT: true; the input reads as it did. -/
def topPoolSpec : ChangeSpec := { name := "topPool", fn := fun _ => fun
  | [d1, d2, d3] => { results := [.lit (.bool true)], args := [d1, d2, d3] }
  | _ => none }
def topPoolRow : OpenClaim := { program := "ythdjckbjjfiopac", sum := "8fc77302f1ac132f74c06cbee329e345db81931da73c006987ac72a5f8fe2a15", func := "counterfoil/counterfoiltop.TopPool", spec := "topPool", recurses := true, apart := false }
def TopPoolSaid : Prop := topPoolRow.holds Try.pinned (OpenSpec.ofChange topPoolSpec)

/-- ITS FALSE NEIGHBOUR: 'it returns false'. Refute it at one input. -/
def topPoolWrong : ChangeSpec := { name := "topPool", fn := fun _ => fun
  | [d1, d2, d3] => { results := [.lit (.bool false)], args := [d1, d2, d3] }
  | _ => none }
def TopPoolWrongFalsely : Prop := topPoolRow.holds Try.pinned (OpenSpec.ofChange topPoolWrong)

/-- 'counterfoiltop.TopSet': WHATEVER THE INPUT: true; the input reads as it did. -/
def topSetSpec : ChangeSpec := { name := "topSet", fn := fun _ => fun
  | [d1, d2, d3, d4] => { results := [.lit (.bool true)], args := [d1, d2, d3, d4] }
  | _ => none }
def topSetRow : OpenClaim := { program := "ythdjckbjjfiopac", sum := "8fc77302f1ac132f74c06cbee329e345db81931da73c006987ac72a5f8fe2a15", func := "counterfoil/counterfoiltop.TopSet", spec := "topSet", recurses := true, apart := false }
def TopSetSaid : Prop := topSetRow.holds Try.pinned (OpenSpec.ofChange topSetSpec)

/-- ITS FALSE NEIGHBOUR: 'it returns false'. Refute it at one input. -/
def topSetWrong : ChangeSpec := { name := "topSet", fn := fun _ => fun
  | [d1, d2, d3, d4] => { results := [.lit (.bool false)], args := [d1, d2, d3, d4] }
  | _ => none }
def TopSetWrongFalsely : Prop := topSetRow.holds Try.pinned (OpenSpec.ofChange topSetWrong)

/-- 'counterfoiltop.TopFree': WHATEVER THE INPUT: true; the input reads as it did. -/
def topFreeSpec : ChangeSpec := { name := "topFree", fn := fun _ => fun
  | [d1, d2] => { results := [.lit (.bool true)], args := [d1, d2] }
  | _ => none }
def topFreeRow : OpenClaim := { program := "ythdjckbjjfiopac", sum := "8fc77302f1ac132f74c06cbee329e345db81931da73c006987ac72a5f8fe2a15", func := "counterfoil/counterfoiltop.TopFree", spec := "topFree", recurses := true, apart := false }
def TopFreeSaid : Prop := topFreeRow.holds Try.pinned (OpenSpec.ofChange topFreeSpec)

/-- ITS FALSE NEIGHBOUR: 'it returns false'. Refute it at one input. -/
def topFreeWrong : ChangeSpec := { name := "topFree", fn := fun _ => fun
  | [d1, d2] => { results := [.lit (.bool false)], args := [d1, d2] }
  | _ => none }
def TopFreeWrongFalsely : Prop := topFreeRow.holds Try.pinned (OpenSpec.ofChange topFreeWrong)

/-- 'counterfoiltop.TopCrash': WHATEVER THE INPUT: true; the input reads as it did. -/
def topCrashSpec : ChangeSpec := { name := "topCrash", fn := fun _ => fun
  | [d1, d2, d3] => { results := [.lit (.bool true)], args := [d1, d2, d3] }
  | _ => none }
def topCrashRow : OpenClaim := { program := "ythdjckbjjfiopac", sum := "8fc77302f1ac132f74c06cbee329e345db81931da73c006987ac72a5f8fe2a15", func := "counterfoil/counterfoiltop.TopCrash", spec := "topCrash", inPlace := ["internal/bytealg.abigen_runtime_cmpstring", "slices.overlaps[counterfoil/api.Change]", "internal/abi.NoEscape"], unfollowed := true, recurses := true, apart := false }
def TopCrashSaid : Prop := topCrashRow.holds Try.pinned (OpenSpec.ofChange topCrashSpec)

/-- ITS FALSE NEIGHBOUR: 'it returns false'. Refute it at one input. -/
def topCrashWrong : ChangeSpec := { name := "topCrash", fn := fun _ => fun
  | [d1, d2, d3] => { results := [.lit (.bool false)], args := [d1, d2, d3] }
  | _ => none }
def TopCrashWrongFalsely : Prop := topCrashRow.holds Try.pinned (OpenSpec.ofChange topCrashWrong)

/- THE SECOND FORM. 'bulk': how many values and letters a reading holds, each counted each time it is reached (what is shared counts as often as it is met; a slice's spare places count too). A statement '..UptoSaid' is the law's where the arguments, and the package variables that the reading takes, are together of bulk at most 1048576: NARROWER than '..Said'. Prove '..Said' where nothing that the law and all that it calls make is longer than what came in: it says more and counts as full. Else prove '..UptoSaid'. A law counts once. -/
mutual
def uptoBulk {H : Type} : DataW H → Nat
  | .lit (.string bytes) => bytes.length + 1
  | .lit _ => 1
  | .nil => 1
  | .ptr d => uptoBulk d + 1
  | .slice elems spare => uptoBulkAll elems + uptoBulkAll spare + 1
  | .agg parts => uptoBulkAll parts + 1
  | .iface _ d => uptoBulk d + 1
  | .map entries => uptoBulkEntries entries + 1
  | .held _ => 1
def uptoBulkAll {H : Type} : List (DataW H) → Nat
  | [] => 0
  | d :: r => uptoBulk d + uptoBulkAll r
def uptoBulkEntries {H : Type} : List (Lit × DataW H) → Nat
  | [] => 0
  | x :: r => uptoBulkEntry x + uptoBulkEntries r
def uptoBulkEntry {H : Type} : Lit × DataW H → Nat
  | (.string bytes, d) => bytes.length + uptoBulk d + 1
  | (_, d) => uptoBulk d + 1
 end
def uptoSmall : (H : Type) → List (DataW H) → Bool := fun _ ds => decide (uptoBulkAll ds ≤ 1048576)
def OpenSpec.upto (s : _root_.Go.ChangeSpec) : _root_.Go.OpenSpec := { _root_.Go.OpenSpec.ofChange s with cond := some uptoSmall }

/-- 'counterfoiltop.TopIngest', WHERE WHAT IT READS IS OF BULK AT MOST 1048576: true; the input reads as it did. -/
def topIngestUptoRow : OpenClaim := { program := "ythdjckbjjfiopac", sum := "8fc77302f1ac132f74c06cbee329e345db81931da73c006987ac72a5f8fe2a15", func := "counterfoil/counterfoiltop.TopIngest", spec := "topIngest", unfollowed := true, recurses := true, apart := false, narrowed := true }
def TopIngestUptoSaid : Prop := topIngestUptoRow.holds Try.pinned (OpenSpec.upto topIngestSpec)

/-- 'counterfoiltop.TopPool', WHERE WHAT IT READS IS OF BULK AT MOST 1048576: true; the input reads as it did. -/
def topPoolUptoRow : OpenClaim := { program := "ythdjckbjjfiopac", sum := "8fc77302f1ac132f74c06cbee329e345db81931da73c006987ac72a5f8fe2a15", func := "counterfoil/counterfoiltop.TopPool", spec := "topPool", recurses := true, apart := false, narrowed := true }
def TopPoolUptoSaid : Prop := topPoolUptoRow.holds Try.pinned (OpenSpec.upto topPoolSpec)

/-- 'counterfoiltop.TopSet', WHERE WHAT IT READS IS OF BULK AT MOST 1048576: true; the input reads as it did. -/
def topSetUptoRow : OpenClaim := { program := "ythdjckbjjfiopac", sum := "8fc77302f1ac132f74c06cbee329e345db81931da73c006987ac72a5f8fe2a15", func := "counterfoil/counterfoiltop.TopSet", spec := "topSet", recurses := true, apart := false, narrowed := true }
def TopSetUptoSaid : Prop := topSetUptoRow.holds Try.pinned (OpenSpec.upto topSetSpec)

/-- 'counterfoiltop.TopFree', WHERE WHAT IT READS IS OF BULK AT MOST 1048576: true; the input reads as it did. -/
def topFreeUptoRow : OpenClaim := { program := "ythdjckbjjfiopac", sum := "8fc77302f1ac132f74c06cbee329e345db81931da73c006987ac72a5f8fe2a15", func := "counterfoil/counterfoiltop.TopFree", spec := "topFree", recurses := true, apart := false, narrowed := true }
def TopFreeUptoSaid : Prop := topFreeUptoRow.holds Try.pinned (OpenSpec.upto topFreeSpec)

/-- 'counterfoiltop.TopCrash', WHERE WHAT IT READS IS OF BULK AT MOST 1048576: true; the input reads as it did. -/
def topCrashUptoRow : OpenClaim := { program := "ythdjckbjjfiopac", sum := "8fc77302f1ac132f74c06cbee329e345db81931da73c006987ac72a5f8fe2a15", func := "counterfoil/counterfoiltop.TopCrash", spec := "topCrash", inPlace := ["internal/bytealg.abigen_runtime_cmpstring", "slices.overlaps[counterfoil/api.Change]", "internal/abi.NoEscape"], unfollowed := true, recurses := true, apart := false, narrowed := true }
def TopCrashUptoSaid : Prop := topCrashUptoRow.holds Try.pinned (OpenSpec.upto topCrashSpec)

end Rows
end Go.Proofs.Ythdjckbjjfiopac
