/-
  DERIVED. GIVEN WITH THE SEED: THE CARDS: each row of YtkhjolbbpdaplaaGreatDoorRows.lean that lists a variable, with what it lists TIED to the program's text (the seventh form; the later family's looks); each row that meets fmt, with fmt's text TOLD by the authors' own Lean function (tested against real Go, not proved from fmt's source: count such statements apart). THE CARD IS WHAT COUNTS. Prove the row's statement (the work); the ties are given (YtkhjolbbpdaplaaGreatDoorTie.lean); close each card by the builder's one call (the guide's Derived/Test/ToyasCard.lean, 'card_holds'). Laid BY PROGRAM, IN A SANDBOX (cutbox-door.mjs). By AI agents, Wed Nov 11 2026. No macro, syntax, notation, axiom, sorry.
-/
import Derived.Test.YtkhjolbbpdaplaaGreatDoorRows
import GoSem.ClaimSeven
namespace Go.Proofs.YtkhjolbbpdaplaaGreatDoor
namespace Rows

/-- THE TIED CARD OF 'sorteslaw33.CourtSigned'. -/
def courtSignedCard : Claim7 := { stood := { row := courtSignedRow, standIns := [], harness := (true, "12877990362ae477b9e80ea27c375f5aee9d2de4b7c376e3603501dd1fb140d7"), looks := true }, kinds := [], alts := [], laidByText := true, laidKinds := [.data, .data, .data, .data, .sentinel, .sentinel, .data, .data, .pinned], laidTests := true, laidLooks := .later }
def CourtSignedCardSaid : Prop := Claim7.holds Tryz.pinned (.plain (OpenSpec.ofChange courtSignedSpec)) courtSignedCard

/-- THE SECOND FORM's CARD OF 'sorteslaw33.CourtSigned'. -/
def courtSignedUptoCard : Claim7 := { stood := { row := courtSignedUptoRow, standIns := [], harness := (true, "12877990362ae477b9e80ea27c375f5aee9d2de4b7c376e3603501dd1fb140d7"), looks := true }, kinds := [], alts := [], laidByText := true, laidKinds := [.data, .data, .data, .data, .sentinel, .sentinel, .data, .data, .pinned], laidTests := true, laidLooks := .later }
def CourtSignedUptoCardSaid : Prop := Claim7.holds Tryz.pinned (.plain (OpenSpec.upto courtSignedSpec)) courtSignedUptoCard
end Rows
end Go.Proofs.YtkhjolbbpdaplaaGreatDoor
