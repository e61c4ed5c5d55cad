/-
  DERIVED. GIVEN WITH THE SEED: THE CARDS: each row of YthdjckbjjfiopaaGreatDoorRows.lean that lists a variable, with what it lists TIED to the program's text (the seventh form; the later family's looks); each row that meets fmt, with fmt's text TOLD by the authors' own Lean function (tested against real Go, not proved from fmt's source: count such statements apart). THE CARD IS WHAT COUNTS. Prove the row's statement (the work); the ties are given (YthdjckbjjfiopaaGreatDoorTie.lean); close each card by the builder's one call (the guide's Derived/Test/ToyasCard.lean, 'card_holds'). Laid BY PROGRAM, IN A SANDBOX (cutbox-door.mjs). By AI agents, Wed Nov 11 2026. No macro, syntax, notation, axiom, sorry.
-/
import Derived.Test.YthdjckbjjfiopaaGreatDoorRows
import GoSem.ClaimSeven
namespace Go.Proofs.YthdjckbjjfiopaaGreatDoor
namespace Rows

/-- THE TIED CARD OF 'counterfoillaw.ImageSays'. -/
def imageSaysCard : Claim7 := { stood := { row := imageSaysRow, standIns := [], harness := (true, "a558cce69e8a9767069a5f04152ba46392117e1e90136889685aa4b695875f57"), looks := true }, kinds := [], alts := [], laidByText := true, laidKinds := [.data, .data, .data, .sentinel, .sentinel], laidTests := true, laidLooks := .later }
def ImageSaysCardSaid : Prop := Claim7.holds Tryz.pinned (.plain (OpenSpec.ofChange imageSaysSpec)) imageSaysCard

/-- THE SECOND FORM's CARD OF 'counterfoillaw.ImageSays'. -/
def imageSaysUptoCard : Claim7 := { stood := { row := imageSaysUptoRow, standIns := [], harness := (true, "a558cce69e8a9767069a5f04152ba46392117e1e90136889685aa4b695875f57"), looks := true }, kinds := [], alts := [], laidByText := true, laidKinds := [.data, .data, .data, .sentinel, .sentinel], laidTests := true, laidLooks := .later }
def ImageSaysUptoCardSaid : Prop := Claim7.holds Tryz.pinned (.plain (OpenSpec.upto imageSaysSpec)) imageSaysUptoCard
end Rows
end Go.Proofs.YthdjckbjjfiopaaGreatDoor
