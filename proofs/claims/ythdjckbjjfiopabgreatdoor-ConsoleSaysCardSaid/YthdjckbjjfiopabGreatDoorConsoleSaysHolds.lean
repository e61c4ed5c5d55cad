/- The statement ConsoleSays: whatever the input, the law returns true, and the arguments read as before. Condition: the listed package variables read as the program's text lays them (tied by the card). -/
import Derived.Test.YthdjckbjjfiopabGreatDoorConsoleSaysBHolds
set_option linter.unusedVariables false
namespace Go.Proofs.YthdjckbjjfiopabGreatDoor.consoleSays
open Go.Sl Go.Proofs Go.ChangeShapes Go.WideShapes Go.ChangeAt Go.RowKit
theorem c1 : Rows.consoleSaysRow.wfByText (OpenSpec.ofChange Rows.consoleSaysSpec) = true := by kernel_rfl
theorem c2 : Tryz.pinned.checked.prog.mainIs = some (true, "e5088ebfd20a5578e70af29f48ecf2e1b871d92ed868c1df6690a9e29b8b8749".toList) := by kernel_rfl
theorem c3 : true = Tryz.pinned.checked.prog.looks [] := by kernel_rfl
theorem c4 : Tryz.prog.funcNamed "counterfoil/counterfoillaw.ConsoleSays" = some 5 := by kernel_rfl
theorem c6 : false = Rows.consoleSaysRow.goesBy Tryz.pinned.checked.prog := by kernel_rfl
theorem cw71 : Tryz.pinned.checked.prog.wantsStandIn 71 = false := by kernel_rfl
theorem proved : Rows.ConsoleSaysCardSaid :=
  Claim7.holds_tied_plain_at .later [] [.data, .data, .data, .data, .sentinel, .sentinel, .pinned] true (true, "e5088ebfd20a5578e70af29f48ecf2e1b871d92ed868c1df6690a9e29b8b8749") true
    over (fun _ h => by cases h) c1 (fun _ h => by cases h) consoleSays_row_tie rfl ⟨rfl, rfl⟩ c2 rfl
    (fun f fn hf hfn => by
      obtain rfl : f = 5 := Option.some.inj ((show Tryz.prog.funcNamed "counterfoil/counterfoillaw.ConsoleSays" = some 5 from c4).symm.trans hf) |>.symm
      obtain rfl : fn = Tryz.f5 := (Option.some.inj (Tryz.func5.symm.trans hfn)).symm
      exact ⟨c3, fun j t ht => by
        rw [Tryz.params5] at ht
        rcases j with _ | j
        · obtain rfl : 71 = t := by simpa using ht
          exact cw71
        · simp at ht⟩)
    c6
#print axioms proved
end Go.Proofs.YthdjckbjjfiopabGreatDoor.consoleSays
