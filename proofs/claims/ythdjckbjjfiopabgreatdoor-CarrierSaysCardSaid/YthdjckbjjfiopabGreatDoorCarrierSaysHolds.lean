/- The statement CarrierSays: whatever the input, the law returns true, and the arguments read as before. Condition: the listed package variables read as the program's text lays them (tied by the card). -/
import Derived.Test.YthdjckbjjfiopabGreatDoorCarrierSaysBHolds
set_option linter.unusedVariables false
namespace Go.Proofs.YthdjckbjjfiopabGreatDoor.carrierSays
open Go.Sl Go.Proofs Go.ChangeShapes Go.WideShapes Go.ChangeAt Go.RowKit
theorem c1 : Rows.carrierSaysRow.wfByText (OpenSpec.ofChange Rows.carrierSaysSpec) = true := by kernel_rfl
theorem c2 : Tryz.pinned.checked.prog.mainIs = some (true, "e5088ebfd20a5578e70af29f48ecf2e1b871d92ed868c1df6690a9e29b8b8749".toList) := by kernel_rfl
theorem c3 : true = Tryz.pinned.checked.prog.looks [] := by kernel_rfl
theorem c4 : Tryz.prog.funcNamed "counterfoil/counterfoillaw.CarrierSays" = some 4 := by kernel_rfl
theorem c6 : false = Rows.carrierSaysRow.goesBy Tryz.pinned.checked.prog := by kernel_rfl
theorem cw3 : Tryz.pinned.checked.prog.wantsStandIn 3 = false := by kernel_rfl
theorem cw22 : Tryz.pinned.checked.prog.wantsStandIn 22 = false := by kernel_rfl
theorem proved : Rows.CarrierSaysCardSaid :=
  Claim7.holds_tied_plain_at .later [] [.data, .data, .data, .sentinel, .sentinel] true (true, "e5088ebfd20a5578e70af29f48ecf2e1b871d92ed868c1df6690a9e29b8b8749") true
    over (fun _ h => by cases h) c1 (fun _ h => by cases h) carrierSays_row_tie rfl ⟨rfl, rfl⟩ c2 rfl
    (fun f fn hf hfn => by
      obtain rfl : f = 4 := Option.some.inj ((show Tryz.prog.funcNamed "counterfoil/counterfoillaw.CarrierSays" = some 4 from c4).symm.trans hf) |>.symm
      obtain rfl : fn = Tryz.f4 := (Option.some.inj (Tryz.func4.symm.trans hfn)).symm
      exact ⟨c3, fun j t ht => by
        rw [Tryz.params4] at ht
        rcases j with _ | _ | j
        · obtain rfl : 3 = t := by simpa using ht
          exact cw3
        · obtain rfl : 22 = t := by simpa using ht
          exact cw22
        · simp at ht⟩)
    c6
#print axioms proved
end Go.Proofs.YthdjckbjjfiopabGreatDoor.carrierSays
