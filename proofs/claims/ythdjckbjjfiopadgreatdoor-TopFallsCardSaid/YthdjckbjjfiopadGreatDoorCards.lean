/-
  DERIVED. GIVEN WITH THE SEED: THE CARDS: each row of YthdjckbjjfiopadGreatDoorRows.lean that lists a variable, with what it lists TIED to the program's text (the seventh form; the later family's looks); each row that meets fmt, with fmt's text TOLD by the authors' own Lean function (tested against real Go, not proved from fmt's source: count such statements apart). THE CARD IS WHAT COUNTS. Prove the row's statement (the work); the ties are given (YthdjckbjjfiopadGreatDoorTie.lean); close each card by the builder's one call (the guide's Derived/Test/ToyasCard.lean, 'card_holds'). Laid BY PROGRAM, IN A SANDBOX (cutbox-door.mjs). By AI agents, Wed Nov 11 2026. No macro, syntax, notation, axiom, sorry.
-/
import Derived.Test.YthdjckbjjfiopadGreatDoorRows
import GoSem.ClaimSeven
namespace Go.Proofs.YthdjckbjjfiopadGreatDoor
namespace Rows

/-- THE TIED CARD OF 'counterfoiltop.TopSession'. -/
def topSessionCard : Claim7 := { stood := { row := topSessionRow, standIns := [], harness := (true, "55fa5bcc5d36a4558a04d9d7f11d5ad206111bcbb66c7508b0686c2037abc7da"), looks := true }, kinds := [], alts := [], laidByText := true, laidKinds := [.data, .data, .data, .sentinel, .sentinel], laidTests := true, laidLooks := .later }
def TopSessionCardSaid : Prop := Claim7.holds Tryz.pinned (.plain (OpenSpec.ofChange topSessionSpec)) topSessionCard

/-- THE TIED CARD OF 'counterfoiltop.TopBackup'. -/
def topBackupCard : Claim7 := { stood := { row := topBackupRow, standIns := [], harness := (true, "55fa5bcc5d36a4558a04d9d7f11d5ad206111bcbb66c7508b0686c2037abc7da"), looks := true }, kinds := [], alts := [], laidByText := true, laidKinds := [.data, .data, .data, .sentinel, .sentinel], laidTests := true, laidLooks := .later }
def TopBackupCardSaid : Prop := Claim7.holds Tryz.pinned (.plain (OpenSpec.ofChange topBackupSpec)) topBackupCard

/-- THE TIED CARD OF 'counterfoiltop.TopFall'. -/
def topFallCard : Claim7 := { stood := { row := topFallRow, standIns := [], harness := (true, "55fa5bcc5d36a4558a04d9d7f11d5ad206111bcbb66c7508b0686c2037abc7da"), looks := true }, kinds := [], alts := [], laidByText := true, laidKinds := [.data, .data, .data, .sentinel, .sentinel], laidTests := true, laidLooks := .later }
def TopFallCardSaid : Prop := Claim7.holds Tryz.pinned (.plain (OpenSpec.ofChange topFallSpec)) topFallCard

/-- THE TIED CARD OF 'counterfoiltop.TopFalls'. -/
def topFallsCard : Claim7 := { stood := { row := topFallsRow, standIns := [], harness := (true, "55fa5bcc5d36a4558a04d9d7f11d5ad206111bcbb66c7508b0686c2037abc7da"), looks := true }, kinds := [], alts := [], laidByText := true, laidKinds := [.data, .data, .data, .sentinel, .sentinel], laidTests := true, laidLooks := .later }
def TopFallsCardSaid : Prop := Claim7.holds Tryz.pinned (.plain (OpenSpec.ofChange topFallsSpec)) topFallsCard

/-- THE SECOND FORM's CARD OF 'counterfoiltop.TopSession'. -/
def topSessionUptoCard : Claim7 := { stood := { row := topSessionUptoRow, standIns := [], harness := (true, "55fa5bcc5d36a4558a04d9d7f11d5ad206111bcbb66c7508b0686c2037abc7da"), looks := true }, kinds := [], alts := [], laidByText := true, laidKinds := [.data, .data, .data, .sentinel, .sentinel], laidTests := true, laidLooks := .later }
def TopSessionUptoCardSaid : Prop := Claim7.holds Tryz.pinned (.plain (OpenSpec.upto topSessionSpec)) topSessionUptoCard

/-- THE SECOND FORM's CARD OF 'counterfoiltop.TopBackup'. -/
def topBackupUptoCard : Claim7 := { stood := { row := topBackupUptoRow, standIns := [], harness := (true, "55fa5bcc5d36a4558a04d9d7f11d5ad206111bcbb66c7508b0686c2037abc7da"), looks := true }, kinds := [], alts := [], laidByText := true, laidKinds := [.data, .data, .data, .sentinel, .sentinel], laidTests := true, laidLooks := .later }
def TopBackupUptoCardSaid : Prop := Claim7.holds Tryz.pinned (.plain (OpenSpec.upto topBackupSpec)) topBackupUptoCard

/-- THE SECOND FORM's CARD OF 'counterfoiltop.TopFall'. -/
def topFallUptoCard : Claim7 := { stood := { row := topFallUptoRow, standIns := [], harness := (true, "55fa5bcc5d36a4558a04d9d7f11d5ad206111bcbb66c7508b0686c2037abc7da"), looks := true }, kinds := [], alts := [], laidByText := true, laidKinds := [.data, .data, .data, .sentinel, .sentinel], laidTests := true, laidLooks := .later }
def TopFallUptoCardSaid : Prop := Claim7.holds Tryz.pinned (.plain (OpenSpec.upto topFallSpec)) topFallUptoCard

/-- THE SECOND FORM's CARD OF 'counterfoiltop.TopFalls'. -/
def topFallsUptoCard : Claim7 := { stood := { row := topFallsUptoRow, standIns := [], harness := (true, "55fa5bcc5d36a4558a04d9d7f11d5ad206111bcbb66c7508b0686c2037abc7da"), looks := true }, kinds := [], alts := [], laidByText := true, laidKinds := [.data, .data, .data, .sentinel, .sentinel], laidTests := true, laidLooks := .later }
def TopFallsUptoCardSaid : Prop := Claim7.holds Tryz.pinned (.plain (OpenSpec.upto topFallsSpec)) topFallsUptoCard
end Rows
end Go.Proofs.YthdjckbjjfiopadGreatDoor
