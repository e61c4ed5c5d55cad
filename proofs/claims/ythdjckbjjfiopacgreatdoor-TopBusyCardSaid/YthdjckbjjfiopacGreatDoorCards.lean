/-
  DERIVED. GIVEN WITH THE SEED: THE CARDS: each row of YthdjckbjjfiopacGreatDoorRows.lean that lists a variable, with what it lists TIED to the program's text (the seventh form; the later family's looks); each row that meets fmt, with fmt's text TOLD by the authors' own Lean function (tested against real Go, not proved from fmt's source: count such statements apart). THE CARD IS WHAT COUNTS. Prove the row's statement (the work); the ties are given (YthdjckbjjfiopacGreatDoorTie.lean); close each card by the builder's one call (the guide's Derived/Test/ToyasCard.lean, 'card_holds'). Laid BY PROGRAM, IN A SANDBOX (cutbox-door.mjs). By AI agents, Wed Nov 11 2026. No macro, syntax, notation, axiom, sorry.
-/
import Derived.Test.YthdjckbjjfiopacGreatDoorRows
import GoSem.ClaimSeven
namespace Go.Proofs.YthdjckbjjfiopacGreatDoor
namespace Rows

/-- THE TIED CARD OF 'counterfoiltop.TopAgain'. -/
def topAgainCard : Claim7 := { stood := { row := topAgainRow, standIns := [], harness := (true, "c261ffbbc996769808481a1f8df040292fe3076f907de5c6c7e912595de05d75"), looks := true }, kinds := [], alts := [], laidByText := true, laidKinds := [.data, .data, .data], laidTests := true, laidLooks := .later }
def TopAgainCardSaid : Prop := Claim7.holds Tryz.pinned (.plain (OpenSpec.ofChange topAgainSpec)) topAgainCard

/-- THE TIED CARD OF 'counterfoiltop.TopGone'. -/
def topGoneCard : Claim7 := { stood := { row := topGoneRow, standIns := [], harness := (true, "c261ffbbc996769808481a1f8df040292fe3076f907de5c6c7e912595de05d75"), looks := true }, kinds := [], alts := [], laidByText := true, laidKinds := [.data, .data, .data, .sentinel, .sentinel], laidTests := true, laidLooks := .later }
def TopGoneCardSaid : Prop := Claim7.holds Tryz.pinned (.plain (OpenSpec.ofChange topGoneSpec)) topGoneCard

/-- THE TIED CARD OF 'counterfoiltop.TopSpoilt'. -/
def topSpoiltCard : Claim7 := { stood := { row := topSpoiltRow, standIns := [], harness := (true, "c261ffbbc996769808481a1f8df040292fe3076f907de5c6c7e912595de05d75"), looks := true }, kinds := [], alts := [], laidByText := true, laidKinds := [.data, .data, .data, .sentinel, .sentinel], laidTests := true, laidLooks := .later }
def TopSpoiltCardSaid : Prop := Claim7.holds Tryz.pinned (.plain (OpenSpec.ofChange topSpoiltSpec)) topSpoiltCard

/-- THE TIED CARD OF 'counterfoiltop.TopMount'. -/
def topMountCard : Claim7 := { stood := { row := topMountRow, standIns := [], harness := (true, "c261ffbbc996769808481a1f8df040292fe3076f907de5c6c7e912595de05d75"), looks := true }, kinds := [], alts := [], laidByText := true, laidKinds := [.data, .data, .data, .sentinel, .sentinel], laidTests := true, laidLooks := .later }
def TopMountCardSaid : Prop := Claim7.holds Tryz.pinned (.plain (OpenSpec.ofChange topMountSpec)) topMountCard

/-- THE TIED CARD OF 'counterfoiltop.TopBusy'. -/
def topBusyCard : Claim7 := { stood := { row := topBusyRow, standIns := [], harness := (true, "c261ffbbc996769808481a1f8df040292fe3076f907de5c6c7e912595de05d75"), looks := true }, kinds := [], alts := [], laidByText := true, laidKinds := [.data, .data, .data, .sentinel, .sentinel], laidTests := true, laidLooks := .later }
def TopBusyCardSaid : Prop := Claim7.holds Tryz.pinned (.plain (OpenSpec.ofChange topBusySpec)) topBusyCard

/-- THE TIED CARD OF 'counterfoiltop.TopKeep'. -/
def topKeepCard : Claim7 := { stood := { row := topKeepRow, standIns := [], harness := (true, "c261ffbbc996769808481a1f8df040292fe3076f907de5c6c7e912595de05d75"), looks := true }, kinds := [], alts := [], laidByText := true, laidKinds := [.data, .data, .data, .sentinel, .sentinel], laidTests := true, laidLooks := .later }
def TopKeepCardSaid : Prop := Claim7.holds Tryz.pinned (.plain (OpenSpec.ofChange topKeepSpec)) topKeepCard

/-- THE TIED CARD OF 'counterfoiltop.TopOpen'. -/
def topOpenCard : Claim7 := { stood := { row := topOpenRow, standIns := [], harness := (true, "c261ffbbc996769808481a1f8df040292fe3076f907de5c6c7e912595de05d75"), looks := true }, kinds := [], alts := [], laidByText := true, laidKinds := [.data, .data, .data, .sentinel, .sentinel], laidTests := true, laidLooks := .later }
def TopOpenCardSaid : Prop := Claim7.holds Tryz.pinned (.plain (OpenSpec.ofChange topOpenSpec)) topOpenCard

/-- THE SECOND FORM's CARD OF 'counterfoiltop.TopAgain'. -/
def topAgainUptoCard : Claim7 := { stood := { row := topAgainUptoRow, standIns := [], harness := (true, "c261ffbbc996769808481a1f8df040292fe3076f907de5c6c7e912595de05d75"), looks := true }, kinds := [], alts := [], laidByText := true, laidKinds := [.data, .data, .data], laidTests := true, laidLooks := .later }
def TopAgainUptoCardSaid : Prop := Claim7.holds Tryz.pinned (.plain (OpenSpec.upto topAgainSpec)) topAgainUptoCard

/-- THE SECOND FORM's CARD OF 'counterfoiltop.TopGone'. -/
def topGoneUptoCard : Claim7 := { stood := { row := topGoneUptoRow, standIns := [], harness := (true, "c261ffbbc996769808481a1f8df040292fe3076f907de5c6c7e912595de05d75"), looks := true }, kinds := [], alts := [], laidByText := true, laidKinds := [.data, .data, .data, .sentinel, .sentinel], laidTests := true, laidLooks := .later }
def TopGoneUptoCardSaid : Prop := Claim7.holds Tryz.pinned (.plain (OpenSpec.upto topGoneSpec)) topGoneUptoCard

/-- THE SECOND FORM's CARD OF 'counterfoiltop.TopSpoilt'. -/
def topSpoiltUptoCard : Claim7 := { stood := { row := topSpoiltUptoRow, standIns := [], harness := (true, "c261ffbbc996769808481a1f8df040292fe3076f907de5c6c7e912595de05d75"), looks := true }, kinds := [], alts := [], laidByText := true, laidKinds := [.data, .data, .data, .sentinel, .sentinel], laidTests := true, laidLooks := .later }
def TopSpoiltUptoCardSaid : Prop := Claim7.holds Tryz.pinned (.plain (OpenSpec.upto topSpoiltSpec)) topSpoiltUptoCard

/-- THE SECOND FORM's CARD OF 'counterfoiltop.TopMount'. -/
def topMountUptoCard : Claim7 := { stood := { row := topMountUptoRow, standIns := [], harness := (true, "c261ffbbc996769808481a1f8df040292fe3076f907de5c6c7e912595de05d75"), looks := true }, kinds := [], alts := [], laidByText := true, laidKinds := [.data, .data, .data, .sentinel, .sentinel], laidTests := true, laidLooks := .later }
def TopMountUptoCardSaid : Prop := Claim7.holds Tryz.pinned (.plain (OpenSpec.upto topMountSpec)) topMountUptoCard

/-- THE SECOND FORM's CARD OF 'counterfoiltop.TopBusy'. -/
def topBusyUptoCard : Claim7 := { stood := { row := topBusyUptoRow, standIns := [], harness := (true, "c261ffbbc996769808481a1f8df040292fe3076f907de5c6c7e912595de05d75"), looks := true }, kinds := [], alts := [], laidByText := true, laidKinds := [.data, .data, .data, .sentinel, .sentinel], laidTests := true, laidLooks := .later }
def TopBusyUptoCardSaid : Prop := Claim7.holds Tryz.pinned (.plain (OpenSpec.upto topBusySpec)) topBusyUptoCard

/-- THE SECOND FORM's CARD OF 'counterfoiltop.TopKeep'. -/
def topKeepUptoCard : Claim7 := { stood := { row := topKeepUptoRow, standIns := [], harness := (true, "c261ffbbc996769808481a1f8df040292fe3076f907de5c6c7e912595de05d75"), looks := true }, kinds := [], alts := [], laidByText := true, laidKinds := [.data, .data, .data, .sentinel, .sentinel], laidTests := true, laidLooks := .later }
def TopKeepUptoCardSaid : Prop := Claim7.holds Tryz.pinned (.plain (OpenSpec.upto topKeepSpec)) topKeepUptoCard

/-- THE SECOND FORM's CARD OF 'counterfoiltop.TopOpen'. -/
def topOpenUptoCard : Claim7 := { stood := { row := topOpenUptoRow, standIns := [], harness := (true, "c261ffbbc996769808481a1f8df040292fe3076f907de5c6c7e912595de05d75"), looks := true }, kinds := [], alts := [], laidByText := true, laidKinds := [.data, .data, .data, .sentinel, .sentinel], laidTests := true, laidLooks := .later }
def TopOpenUptoCardSaid : Prop := Claim7.holds Tryz.pinned (.plain (OpenSpec.upto topOpenSpec)) topOpenUptoCard
end Rows
end Go.Proofs.YthdjckbjjfiopacGreatDoor
