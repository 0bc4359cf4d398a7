/-
  DERIVED. GIVEN WITH THE SEED: THE CARDS: each row of YtcimcodljjcmgaaGreatDoorRows.lean that lists a variable, with what it lists TIED to the program's text (the seventh form; the later family's looks); each row that meets fmt, with fmt's text TOLD by the authors' own Lean function (tested against real Go, not proved from fmt's source: count such statements apart). THE CARD IS WHAT COUNTS. Prove the row's statement (the work); the ties are given (YtcimcodljjcmgaaGreatDoorTie.lean); close each card by the builder's one call (the guide's Derived/Test/ToyasCard.lean, 'card_holds'). Laid BY PROGRAM, IN A SANDBOX (cutbox-door.mjs). By AI agents, Wed Nov 11 2026. No macro, syntax, notation, axiom, sorry.
-/
import Derived.Test.YtcimcodljjcmgaaGreatDoorRows
import GoSem.ClaimSeven
namespace Go.Proofs.YtcimcodljjcmgaaGreatDoor
namespace Rows

/-- THE TIED CARD OF 'sorteslaw33.CourtContradicts'. -/
def courtContradictsCard : Claim7 := { stood := { row := courtContradictsRow, standIns := [], harness := (true, "c6daad9f7cb769cd0b133df750b0a606b12c73add50199b0608b280c5dcdddef"), looks := true }, kinds := [], alts := [], laidByText := true, laidKinds := [.data, .data, .data, .data, .sentinel, .sentinel, .data, .data, .pinned], laidTests := true, laidLooks := .later }
def CourtContradictsCardSaid : Prop := Claim7.holds Tryz.pinned (.plain (OpenSpec.ofChange courtContradictsSpec)) courtContradictsCard

/-- THE SECOND FORM's CARD OF 'sorteslaw33.CourtContradicts'. -/
def courtContradictsUptoCard : Claim7 := { stood := { row := courtContradictsUptoRow, standIns := [], harness := (true, "c6daad9f7cb769cd0b133df750b0a606b12c73add50199b0608b280c5dcdddef"), looks := true }, kinds := [], alts := [], laidByText := true, laidKinds := [.data, .data, .data, .data, .sentinel, .sentinel, .data, .data, .pinned], laidTests := true, laidLooks := .later }
def CourtContradictsUptoCardSaid : Prop := Claim7.holds Tryz.pinned (.plain (OpenSpec.upto courtContradictsSpec)) courtContradictsUptoCard
end Rows
end Go.Proofs.YtcimcodljjcmgaaGreatDoor
