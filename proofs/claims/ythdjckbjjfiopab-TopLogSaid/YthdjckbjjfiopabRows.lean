/-
  No cell of these rows narrows 'for every input' (looked for: loops, veiled, ifaces, maps, wideKeys, modest, calm, conditions, laid).
  DERIVED. THE GIVEN ROWS OF THIS SEAT. 9 by the template 'for every input the law returns true; each argument reads behind the call as it read before'; 0 by the template 'total and deterministic' (their statements: YthdjckbjjfiopabTotals.lean).
  GIVEN WITH THE SEED: the statements are not yours to turn. If you find one false, say at which input.
  Laid BY PROGRAM, IN A SANDBOX (cutbox-rows.mjs): the forced cells as the released guide's own fill.sh prints them over the translation c55a8c9018d25de7… (all of the seat's roots in one cut). By AI agents, Wed Nov 11 2026. No macro, syntax, notation, axiom, sorry.
-/
import Derived.Test.YthdjckbjjfiopabChecked
import GoSem.Claim
import GoSem.ClaimJoined
import GoSem.ClaimMapViews
import Derived.JoinedTies
import Derived.KernelRfl
namespace Go.Proofs.Ythdjckbjjfiopab
/- THE CELL 'sum', in the pinned program and in every row, IS THE sha256 OF THE DUMP (.gsa) THAT YthdjckbjjfiopabProg.lean LOADS. Nothing in Lean hashes anything: it is a label: what it is worth is what the hold of that sum in a sandbox is worth. -/
noncomputable def Try.pinned : Pinned := { name := "ythdjckbjjfiopab", sum := "c55a8c9018d25de7644c3c71f9705d940a50f16714205e1672d31e6de501a5dd", checked := Try.checked }
namespace Rows
def none {H : Type} : Left H := { results := [], args := [] }

/-- 'counterfoiltop.TopPages': WHATEVER THE INPUT: true; the input reads as it did. -/
def topPagesSpec : ChangeSpec := { name := "topPages", fn := fun _ => fun
  | [d1, d2] => { results := [.lit (.bool true)], args := [d1, d2] }
  | _ => none }
def topPagesRow : OpenClaim := { program := "ythdjckbjjfiopab", sum := "c55a8c9018d25de7644c3c71f9705d940a50f16714205e1672d31e6de501a5dd", func := "counterfoil/counterfoiltop.TopPages", spec := "topPages", apart := false }
def TopPagesSaid : Prop := topPagesRow.holds Try.pinned (OpenSpec.ofChange topPagesSpec)

/-- ITS FALSE NEIGHBOUR: 'it returns false'. Refute it at one input. -/
def topPagesWrong : ChangeSpec := { name := "topPages", fn := fun _ => fun
  | [d1, d2] => { results := [.lit (.bool false)], args := [d1, d2] }
  | _ => none }
def TopPagesWrongFalsely : Prop := topPagesRow.holds Try.pinned (OpenSpec.ofChange topPagesWrong)

/-- 'counterfoiltop.TopDisk': WHATEVER THE INPUT: true; the input reads as it did. -/
def topDiskSpec : ChangeSpec := { name := "topDisk", fn := fun _ => fun
  | [d1, d2, d3] => { results := [.lit (.bool true)], args := [d1, d2, d3] }
  | _ => none }
def topDiskRow : OpenClaim := { program := "ythdjckbjjfiopab", sum := "c55a8c9018d25de7644c3c71f9705d940a50f16714205e1672d31e6de501a5dd", func := "counterfoil/counterfoiltop.TopDisk", spec := "topDisk", apart := false }
def TopDiskSaid : Prop := topDiskRow.holds Try.pinned (OpenSpec.ofChange topDiskSpec)

/-- ITS FALSE NEIGHBOUR: 'it returns false'. Refute it at one input. -/
def topDiskWrong : ChangeSpec := { name := "topDisk", fn := fun _ => fun
  | [d1, d2, d3] => { results := [.lit (.bool false)], args := [d1, d2, d3] }
  | _ => none }
def TopDiskWrongFalsely : Prop := topDiskRow.holds Try.pinned (OpenSpec.ofChange topDiskWrong)

/-- 'counterfoiltop.TopDiff': WHATEVER THE INPUT: true; the input reads as it did. -/
def topDiffSpec : ChangeSpec := { name := "topDiff", fn := fun _ => fun
  | [d1, d2, d3] => { results := [.lit (.bool true)], args := [d1, d2, d3] }
  | _ => none }
def topDiffRow : OpenClaim := { program := "ythdjckbjjfiopab", sum := "c55a8c9018d25de7644c3c71f9705d940a50f16714205e1672d31e6de501a5dd", func := "counterfoil/counterfoiltop.TopDiff", spec := "topDiff", recurses := true, apart := false }
def TopDiffSaid : Prop := topDiffRow.holds Try.pinned (OpenSpec.ofChange topDiffSpec)

/-- ITS FALSE NEIGHBOUR: 'it returns false'. Refute it at one input. -/
def topDiffWrong : ChangeSpec := { name := "topDiff", fn := fun _ => fun
  | [d1, d2, d3] => { results := [.lit (.bool false)], args := [d1, d2, d3] }
  | _ => none }
def TopDiffWrongFalsely : Prop := topDiffRow.holds Try.pinned (OpenSpec.ofChange topDiffWrong)

/-- 'counterfoiltop.TopStale': WHATEVER THE INPUT: true; the input reads as it did. -/
def topStaleSpec : ChangeSpec := { name := "topStale", fn := fun _ => fun
  | [d1, d2, d3, d4] => { results := [.lit (.bool true)], args := [d1, d2, d3, d4] }
  | _ => none }
def topStaleRow : OpenClaim := { program := "ythdjckbjjfiopab", sum := "c55a8c9018d25de7644c3c71f9705d940a50f16714205e1672d31e6de501a5dd", func := "counterfoil/counterfoiltop.TopStale", spec := "topStale", unfollowed := true, recurses := true, apart := false }
def TopStaleSaid : Prop := topStaleRow.holds Try.pinned (OpenSpec.ofChange topStaleSpec)

/-- ITS FALSE NEIGHBOUR: 'it returns false'. Refute it at one input. -/
def topStaleWrong : ChangeSpec := { name := "topStale", fn := fun _ => fun
  | [d1, d2, d3, d4] => { results := [.lit (.bool false)], args := [d1, d2, d3, d4] }
  | _ => none }
def TopStaleWrongFalsely : Prop := topStaleRow.holds Try.pinned (OpenSpec.ofChange topStaleWrong)

/-- 'counterfoiltop.TopTouched': WHATEVER THE INPUT: true; the input reads as it did. -/
def topTouchedSpec : ChangeSpec := { name := "topTouched", fn := fun _ => fun
  | [d1, d2, d3] => { results := [.lit (.bool true)], args := [d1, d2, d3] }
  | _ => none }
def topTouchedRow : OpenClaim := { program := "ythdjckbjjfiopab", sum := "c55a8c9018d25de7644c3c71f9705d940a50f16714205e1672d31e6de501a5dd", func := "counterfoil/counterfoiltop.TopTouched", spec := "topTouched", unfollowed := true, recurses := true, apart := false }
def TopTouchedSaid : Prop := topTouchedRow.holds Try.pinned (OpenSpec.ofChange topTouchedSpec)

/-- ITS FALSE NEIGHBOUR: 'it returns false'. Refute it at one input. -/
def topTouchedWrong : ChangeSpec := { name := "topTouched", fn := fun _ => fun
  | [d1, d2, d3] => { results := [.lit (.bool false)], args := [d1, d2, d3] }
  | _ => none }
def TopTouchedWrongFalsely : Prop := topTouchedRow.holds Try.pinned (OpenSpec.ofChange topTouchedWrong)

/-- 'counterfoiltop.TopFold': WHATEVER THE INPUT: true; the input reads as it did. -/
def topFoldSpec : ChangeSpec := { name := "topFold", fn := fun _ => fun
  | [d1, d2, d3, d4, d5] => { results := [.lit (.bool true)], args := [d1, d2, d3, d4, d5] }
  | _ => none }
def topFoldRow : OpenClaim := { program := "ythdjckbjjfiopab", sum := "c55a8c9018d25de7644c3c71f9705d940a50f16714205e1672d31e6de501a5dd", func := "counterfoil/counterfoiltop.TopFold", spec := "topFold", unfollowed := true, recurses := true, apart := false }
def TopFoldSaid : Prop := topFoldRow.holds Try.pinned (OpenSpec.ofChange topFoldSpec)

/-- ITS FALSE NEIGHBOUR: 'it returns false'. Refute it at one input. -/
def topFoldWrong : ChangeSpec := { name := "topFold", fn := fun _ => fun
  | [d1, d2, d3, d4, d5] => { results := [.lit (.bool false)], args := [d1, d2, d3, d4, d5] }
  | _ => none }
def TopFoldWrongFalsely : Prop := topFoldRow.holds Try.pinned (OpenSpec.ofChange topFoldWrong)

/-- 'counterfoiltop.TopCover': WHATEVER THE INPUT: true; the input reads as it did. -/
def topCoverSpec : ChangeSpec := { name := "topCover", fn := fun _ => fun
  | [d1, d2, d3, d4] => { results := [.lit (.bool true)], args := [d1, d2, d3, d4] }
  | _ => none }
def topCoverRow : OpenClaim := { program := "ythdjckbjjfiopab", sum := "c55a8c9018d25de7644c3c71f9705d940a50f16714205e1672d31e6de501a5dd", func := "counterfoil/counterfoiltop.TopCover", spec := "topCover", unfollowed := true, recurses := true, apart := false }
def TopCoverSaid : Prop := topCoverRow.holds Try.pinned (OpenSpec.ofChange topCoverSpec)

/-- ITS FALSE NEIGHBOUR: 'it returns false'. Refute it at one input. -/
def topCoverWrong : ChangeSpec := { name := "topCover", fn := fun _ => fun
  | [d1, d2, d3, d4] => { results := [.lit (.bool false)], args := [d1, d2, d3, d4] }
  | _ => none }
def TopCoverWrongFalsely : Prop := topCoverRow.holds Try.pinned (OpenSpec.ofChange topCoverWrong)

/-- 'counterfoiltop.TopLog': WHATEVER THE INPUT: true; the input reads as it did. -/
def topLogSpec : ChangeSpec := { name := "topLog", fn := fun _ => fun
  | [d1, d2, d3] => { results := [.lit (.bool true)], args := [d1, d2, d3] }
  | _ => none }
def topLogRow : OpenClaim := { program := "ythdjckbjjfiopab", sum := "c55a8c9018d25de7644c3c71f9705d940a50f16714205e1672d31e6de501a5dd", func := "counterfoil/counterfoiltop.TopLog", spec := "topLog", unfollowed := true, recurses := true, apart := false }
def TopLogSaid : Prop := topLogRow.holds Try.pinned (OpenSpec.ofChange topLogSpec)

/-- ITS FALSE NEIGHBOUR: 'it returns false'. Refute it at one input. -/
def topLogWrong : ChangeSpec := { name := "topLog", fn := fun _ => fun
  | [d1, d2, d3] => { results := [.lit (.bool false)], args := [d1, d2, d3] }
  | _ => none }
def TopLogWrongFalsely : Prop := topLogRow.holds Try.pinned (OpenSpec.ofChange topLogWrong)

/-- 'counterfoiltop.TopStays': WHATEVER THE INPUT: true; the input reads as it did. -/
def topStaysSpec : ChangeSpec := { name := "topStays", fn := fun _ => fun
  | [d1, d2, d3] => { results := [.lit (.bool true)], args := [d1, d2, d3] }
  | _ => none }
def topStaysRow : OpenClaim := { program := "ythdjckbjjfiopab", sum := "c55a8c9018d25de7644c3c71f9705d940a50f16714205e1672d31e6de501a5dd", func := "counterfoil/counterfoiltop.TopStays", spec := "topStays", unfollowed := true, recurses := true, apart := false }
def TopStaysSaid : Prop := topStaysRow.holds Try.pinned (OpenSpec.ofChange topStaysSpec)

/-- ITS FALSE NEIGHBOUR: 'it returns false'. Refute it at one input. -/
def topStaysWrong : ChangeSpec := { name := "topStays", fn := fun _ => fun
  | [d1, d2, d3] => { results := [.lit (.bool false)], args := [d1, d2, d3] }
  | _ => none }
def TopStaysWrongFalsely : Prop := topStaysRow.holds Try.pinned (OpenSpec.ofChange topStaysWrong)

/- THE SECOND FORM. 'bulk': how many values and letters a reading holds, each counted each time it is reached (what is shared counts as often as it is met; a slice's spare places count too). A statement '..UptoSaid' is the law's where the arguments, and the package variables that the reading takes, are together of bulk at most 1048576: NARROWER than '..Said'. Prove '..Said' where nothing that the law and all that it calls make is longer than what came in: it says more and counts as full. Else prove '..UptoSaid'. A law counts once. -/
mutual
def uptoBulk {H : Type} : DataW H → Nat
  | .lit (.string bytes) => bytes.length + 1
  | .lit _ => 1
  | .nil => 1
  | .ptr d => uptoBulk d + 1
  | .slice elems spare => uptoBulkAll elems + uptoBulkAll spare + 1
  | .agg parts => uptoBulkAll parts + 1
  | .iface _ d => uptoBulk d + 1
  | .map entries => uptoBulkEntries entries + 1
  | .held _ => 1
def uptoBulkAll {H : Type} : List (DataW H) → Nat
  | [] => 0
  | d :: r => uptoBulk d + uptoBulkAll r
def uptoBulkEntries {H : Type} : List (Lit × DataW H) → Nat
  | [] => 0
  | x :: r => uptoBulkEntry x + uptoBulkEntries r
def uptoBulkEntry {H : Type} : Lit × DataW H → Nat
  | (.string bytes, d) => bytes.length + uptoBulk d + 1
  | (_, d) => uptoBulk d + 1
 end
def uptoSmall : (H : Type) → List (DataW H) → Bool := fun _ ds => decide (uptoBulkAll ds ≤ 1048576)
def OpenSpec.upto (s : _root_.Go.ChangeSpec) : _root_.Go.OpenSpec := { _root_.Go.OpenSpec.ofChange s with cond := some uptoSmall }

/-- 'counterfoiltop.TopPages', WHERE WHAT IT READS IS OF BULK AT MOST 1048576: true; the input reads as it did. -/
def topPagesUptoRow : OpenClaim := { program := "ythdjckbjjfiopab", sum := "c55a8c9018d25de7644c3c71f9705d940a50f16714205e1672d31e6de501a5dd", func := "counterfoil/counterfoiltop.TopPages", spec := "topPages", apart := false, narrowed := true }
def TopPagesUptoSaid : Prop := topPagesUptoRow.holds Try.pinned (OpenSpec.upto topPagesSpec)

/-- 'counterfoiltop.TopDisk', WHERE WHAT IT READS IS OF BULK AT MOST 1048576: true; the input reads as it did. -/
def topDiskUptoRow : OpenClaim := { program := "ythdjckbjjfiopab", sum := "c55a8c9018d25de7644c3c71f9705d940a50f16714205e1672d31e6de501a5dd", func := "counterfoil/counterfoiltop.TopDisk", spec := "topDisk", apart := false, narrowed := true }
def TopDiskUptoSaid : Prop := topDiskUptoRow.holds Try.pinned (OpenSpec.upto topDiskSpec)

/-- 'counterfoiltop.TopDiff', WHERE WHAT IT READS IS OF BULK AT MOST 1048576: true; the input reads as it did. -/
def topDiffUptoRow : OpenClaim := { program := "ythdjckbjjfiopab", sum := "c55a8c9018d25de7644c3c71f9705d940a50f16714205e1672d31e6de501a5dd", func := "counterfoil/counterfoiltop.TopDiff", spec := "topDiff", recurses := true, apart := false, narrowed := true }
def TopDiffUptoSaid : Prop := topDiffUptoRow.holds Try.pinned (OpenSpec.upto topDiffSpec)

/-- 'counterfoiltop.TopStale', WHERE WHAT IT READS IS OF BULK AT MOST 1048576: true; the input reads as it did. -/
def topStaleUptoRow : OpenClaim := { program := "ythdjckbjjfiopab", sum := "c55a8c9018d25de7644c3c71f9705d940a50f16714205e1672d31e6de501a5dd", func := "counterfoil/counterfoiltop.TopStale", spec := "topStale", unfollowed := true, recurses := true, apart := false, narrowed := true }
def TopStaleUptoSaid : Prop := topStaleUptoRow.holds Try.pinned (OpenSpec.upto topStaleSpec)

/-- 'counterfoiltop.TopTouched', WHERE WHAT IT READS IS OF BULK AT MOST 1048576: true; the input reads as it did. -/
def topTouchedUptoRow : OpenClaim := { program := "ythdjckbjjfiopab", sum := "c55a8c9018d25de7644c3c71f9705d940a50f16714205e1672d31e6de501a5dd", func := "counterfoil/counterfoiltop.TopTouched", spec := "topTouched", unfollowed := true, recurses := true, apart := false, narrowed := true }
def TopTouchedUptoSaid : Prop := topTouchedUptoRow.holds Try.pinned (OpenSpec.upto topTouchedSpec)

/-- 'counterfoiltop.TopFold', WHERE WHAT IT READS IS OF BULK AT MOST 1048576: true; the input reads as it did. -/
def topFoldUptoRow : OpenClaim := { program := "ythdjckbjjfiopab", sum := "c55a8c9018d25de7644c3c71f9705d940a50f16714205e1672d31e6de501a5dd", func := "counterfoil/counterfoiltop.TopFold", spec := "topFold", unfollowed := true, recurses := true, apart := false, narrowed := true }
def TopFoldUptoSaid : Prop := topFoldUptoRow.holds Try.pinned (OpenSpec.upto topFoldSpec)

/-- 'counterfoiltop.TopCover', WHERE WHAT IT READS IS OF BULK AT MOST 1048576: true; the input reads as it did. -/
def topCoverUptoRow : OpenClaim := { program := "ythdjckbjjfiopab", sum := "c55a8c9018d25de7644c3c71f9705d940a50f16714205e1672d31e6de501a5dd", func := "counterfoil/counterfoiltop.TopCover", spec := "topCover", unfollowed := true, recurses := true, apart := false, narrowed := true }
def TopCoverUptoSaid : Prop := topCoverUptoRow.holds Try.pinned (OpenSpec.upto topCoverSpec)

/-- 'counterfoiltop.TopLog', WHERE WHAT IT READS IS OF BULK AT MOST 1048576: true; the input reads as it did. -/
def topLogUptoRow : OpenClaim := { program := "ythdjckbjjfiopab", sum := "c55a8c9018d25de7644c3c71f9705d940a50f16714205e1672d31e6de501a5dd", func := "counterfoil/counterfoiltop.TopLog", spec := "topLog", unfollowed := true, recurses := true, apart := false, narrowed := true }
def TopLogUptoSaid : Prop := topLogUptoRow.holds Try.pinned (OpenSpec.upto topLogSpec)

/-- 'counterfoiltop.TopStays', WHERE WHAT IT READS IS OF BULK AT MOST 1048576: true; the input reads as it did. -/
def topStaysUptoRow : OpenClaim := { program := "ythdjckbjjfiopab", sum := "c55a8c9018d25de7644c3c71f9705d940a50f16714205e1672d31e6de501a5dd", func := "counterfoil/counterfoiltop.TopStays", spec := "topStays", unfollowed := true, recurses := true, apart := false, narrowed := true }
def TopStaysUptoSaid : Prop := topStaysUptoRow.holds Try.pinned (OpenSpec.upto topStaysSpec)

end Rows
end Go.Proofs.Ythdjckbjjfiopab
