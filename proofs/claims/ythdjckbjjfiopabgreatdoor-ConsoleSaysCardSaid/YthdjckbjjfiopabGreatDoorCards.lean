/-
  DERIVED. GIVEN WITH THE SEED: THE CARDS: each row of YthdjckbjjfiopabGreatDoorRows.lean that lists a variable, with what it lists TIED to the program's text (the seventh form; the later family's looks); each row that meets fmt, with fmt's text TOLD by the authors' own Lean function (tested against real Go, not proved from fmt's source: count such statements apart). THE CARD IS WHAT COUNTS. Prove the row's statement (the work); the ties are given (YthdjckbjjfiopabGreatDoorTie.lean); close each card by the builder's one call (the guide's Derived/Test/ToyasCard.lean, 'card_holds'). Laid BY PROGRAM, IN A SANDBOX (cutbox-door.mjs). By AI agents, Wed Nov 11 2026. No macro, syntax, notation, axiom, sorry.
-/
import Derived.Test.YthdjckbjjfiopabGreatDoorRows
import GoSem.ClaimSeven
namespace Go.Proofs.YthdjckbjjfiopabGreatDoor
namespace Rows

/-- THE TIED CARD OF 'counterfoillaw.RepoSays'. -/
def repoSaysCard : Claim7 := { stood := { row := repoSaysRow, standIns := [], harness := (true, "e5088ebfd20a5578e70af29f48ecf2e1b871d92ed868c1df6690a9e29b8b8749"), looks := true }, kinds := [], alts := [], laidByText := true, laidKinds := [.data, .data, .data, .sentinel, .sentinel], laidTests := true, laidLooks := .later }
def RepoSaysCardSaid : Prop := Claim7.holds Tryz.pinned (.plain (OpenSpec.ofChange repoSaysSpec)) repoSaysCard

/-- THE TIED CARD OF 'counterfoillaw.CarrierSays'. -/
def carrierSaysCard : Claim7 := { stood := { row := carrierSaysRow, standIns := [], harness := (true, "e5088ebfd20a5578e70af29f48ecf2e1b871d92ed868c1df6690a9e29b8b8749"), looks := true }, kinds := [], alts := [], laidByText := true, laidKinds := [.data, .data, .data, .sentinel, .sentinel], laidTests := true, laidLooks := .later }
def CarrierSaysCardSaid : Prop := Claim7.holds Tryz.pinned (.plain (OpenSpec.ofChange carrierSaysSpec)) carrierSaysCard

/-- THE TIED CARD OF 'counterfoillaw.ConsoleSays'. -/
def consoleSaysCard : Claim7 := { stood := { row := consoleSaysRow, standIns := [], harness := (true, "e5088ebfd20a5578e70af29f48ecf2e1b871d92ed868c1df6690a9e29b8b8749"), looks := true }, kinds := [], alts := [], laidByText := true, laidKinds := [.data, .data, .data, .data, .sentinel, .sentinel, .pinned], laidTests := true, laidLooks := .later }
def ConsoleSaysCardSaid : Prop := Claim7.holds Tryz.pinned (.plain (OpenSpec.ofChange consoleSaysSpec)) consoleSaysCard

/-- THE SECOND FORM's CARD OF 'counterfoillaw.RepoSays'. -/
def repoSaysUptoCard : Claim7 := { stood := { row := repoSaysUptoRow, standIns := [], harness := (true, "e5088ebfd20a5578e70af29f48ecf2e1b871d92ed868c1df6690a9e29b8b8749"), looks := true }, kinds := [], alts := [], laidByText := true, laidKinds := [.data, .data, .data, .sentinel, .sentinel], laidTests := true, laidLooks := .later }
def RepoSaysUptoCardSaid : Prop := Claim7.holds Tryz.pinned (.plain (OpenSpec.upto repoSaysSpec)) repoSaysUptoCard

/-- THE SECOND FORM's CARD OF 'counterfoillaw.CarrierSays'. -/
def carrierSaysUptoCard : Claim7 := { stood := { row := carrierSaysUptoRow, standIns := [], harness := (true, "e5088ebfd20a5578e70af29f48ecf2e1b871d92ed868c1df6690a9e29b8b8749"), looks := true }, kinds := [], alts := [], laidByText := true, laidKinds := [.data, .data, .data, .sentinel, .sentinel], laidTests := true, laidLooks := .later }
def CarrierSaysUptoCardSaid : Prop := Claim7.holds Tryz.pinned (.plain (OpenSpec.upto carrierSaysSpec)) carrierSaysUptoCard

/-- THE SECOND FORM's CARD OF 'counterfoillaw.ConsoleSays'. -/
def consoleSaysUptoCard : Claim7 := { stood := { row := consoleSaysUptoRow, standIns := [], harness := (true, "e5088ebfd20a5578e70af29f48ecf2e1b871d92ed868c1df6690a9e29b8b8749"), looks := true }, kinds := [], alts := [], laidByText := true, laidKinds := [.data, .data, .data, .data, .sentinel, .sentinel, .pinned], laidTests := true, laidLooks := .later }
def ConsoleSaysUptoCardSaid : Prop := Claim7.holds Tryz.pinned (.plain (OpenSpec.upto consoleSaysSpec)) consoleSaysUptoCard
end Rows
end Go.Proofs.YthdjckbjjfiopabGreatDoor
