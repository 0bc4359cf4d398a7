/-
  DERIVED. GIVEN WITH THE SEED: THE CARDS: each row of YtheobkejohifaaaGreatDoorRows.lean that lists a variable, with what it lists TIED to the program's text (the seventh form; the later family's looks); each row that meets fmt, with fmt's text TOLD by the authors' own Lean function (tested against real Go, not proved from fmt's source: count such statements apart). THE CARD IS WHAT COUNTS. Prove the row's statement (the work); the ties are given (YtheobkejohifaaaGreatDoorTie.lean); close each card by the builder's one call (the guide's Derived/Test/ToyasCard.lean, 'card_holds'). Laid BY PROGRAM, IN A SANDBOX (cutbox-door.mjs). By AI agents, Wed Nov 11 2026. No macro, syntax, notation, axiom, sorry.
-/
import Derived.Test.YtheobkejohifaaaGreatDoorRows
import GoSem.ClaimSeven
namespace Go.Proofs.YtheobkejohifaaaGreatDoor
namespace Rows

/-- THE TIED CARD OF 'sorteslaw33.CourtHonest'. -/
def courtHonestCard : Claim7 := { stood := { row := courtHonestRow, standIns := [], harness := (true, "a149c25cf57f8cb08b51c30b6e95c437fcb7b5335a00325f28213fb3fefb1818"), looks := true }, kinds := [], alts := [], laidByText := true, laidKinds := [.data, .data, .data, .data, .sentinel, .sentinel, .data, .data, .pinned], laidTests := true, laidLooks := .later }
def CourtHonestCardSaid : Prop := Claim7.holds Tryz.pinned (.plain (OpenSpec.ofChange courtHonestSpec)) courtHonestCard

/-- THE SECOND FORM's CARD OF 'sorteslaw33.CourtHonest'. -/
def courtHonestUptoCard : Claim7 := { stood := { row := courtHonestUptoRow, standIns := [], harness := (true, "a149c25cf57f8cb08b51c30b6e95c437fcb7b5335a00325f28213fb3fefb1818"), looks := true }, kinds := [], alts := [], laidByText := true, laidKinds := [.data, .data, .data, .data, .sentinel, .sentinel, .data, .data, .pinned], laidTests := true, laidLooks := .later }
def CourtHonestUptoCardSaid : Prop := Claim7.holds Tryz.pinned (.plain (OpenSpec.upto courtHonestSpec)) courtHonestUptoCard
end Rows
end Go.Proofs.YtheobkejohifaaaGreatDoor
