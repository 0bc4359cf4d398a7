/-
  DERIVED. GIVEN WITH THE SEED: THE CARDS: each row of YtinpenoeohejoaaGreatDoorRows.lean that lists a variable, with what it lists TIED to the program's text (the seventh form; the later family's looks); each row that meets fmt, with fmt's text TOLD by the authors' own Lean function (tested against real Go, not proved from fmt's source: count such statements apart). THE CARD IS WHAT COUNTS. Prove the row's statement (the work); the ties are given (YtinpenoeohejoaaGreatDoorTie.lean); close each card by the builder's one call (the guide's Derived/Test/ToyasCard.lean, 'card_holds'). Laid BY PROGRAM, IN A SANDBOX (cutbox-door.mjs). By AI agents, Wed Nov 11 2026. No macro, syntax, notation, axiom, sorry.
-/
import Derived.Test.YtinpenoeohejoaaGreatDoorRows
import GoSem.ClaimSeven
namespace Go.Proofs.YtinpenoeohejoaaGreatDoor
namespace Rows

/-- THE TIED CARD OF 'sorteslaw33.CourtKiosk'. -/
def courtKioskCard : Claim7 := { stood := { row := courtKioskRow, standIns := [], harness := (true, "47ed7e0b3460d91e6c7c6ce79d4432ae25e50fc4084b2fd1839d77ad9cac5079"), looks := true }, kinds := [], alts := [], laidByText := true, laidKinds := [.data, .data, .data, .data, .sentinel, .sentinel, .data, .data, .pinned], laidTests := true, laidLooks := .later }
def CourtKioskCardSaid : Prop := Claim7.holds Tryz.pinned (.plain (OpenSpec.ofChange courtKioskSpec)) courtKioskCard

/-- THE SECOND FORM's CARD OF 'sorteslaw33.CourtKiosk'. -/
def courtKioskUptoCard : Claim7 := { stood := { row := courtKioskUptoRow, standIns := [], harness := (true, "47ed7e0b3460d91e6c7c6ce79d4432ae25e50fc4084b2fd1839d77ad9cac5079"), looks := true }, kinds := [], alts := [], laidByText := true, laidKinds := [.data, .data, .data, .data, .sentinel, .sentinel, .data, .data, .pinned], laidTests := true, laidLooks := .later }
def CourtKioskUptoCardSaid : Prop := Claim7.holds Tryz.pinned (.plain (OpenSpec.upto courtKioskSpec)) courtKioskUptoCard
end Rows
end Go.Proofs.YtinpenoeohejoaaGreatDoor
