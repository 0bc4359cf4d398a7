/-
  DERIVED. GIVEN WITH THE SEED: THE CARDS: each row of YtmjlkkbbnkanpaaGreatDoorRows.lean that lists a variable, with what it lists TIED to the program's text (the seventh form; the later family's looks); each row that meets fmt, with fmt's text TOLD by the authors' own Lean function (tested against real Go, not proved from fmt's source: count such statements apart). THE CARD IS WHAT COUNTS. Prove the row's statement (the work); the ties are given (YtmjlkkbbnkanpaaGreatDoorTie.lean); close each card by the builder's one call (the guide's Derived/Test/ToyasCard.lean, 'card_holds'). Laid BY PROGRAM, IN A SANDBOX (cutbox-door.mjs). By AI agents, Wed Nov 11 2026. No macro, syntax, notation, axiom, sorry.
-/
import Derived.Test.YtmjlkkbbnkanpaaGreatDoorRows
import GoSem.ClaimSeven
namespace Go.Proofs.YtmjlkkbbnkanpaaGreatDoor
namespace Rows

/-- THE TIED CARD OF 'sorteslaw33.CourtForged'. -/
def courtForgedCard : Claim7 := { stood := { row := courtForgedRow, standIns := [], harness := (true, "5738dd3950d99018974b07901566c57b64eea02187c11e86312278e29e3a0e21"), looks := true }, kinds := [], alts := [], laidByText := true, laidKinds := [.data, .data, .data, .data, .sentinel, .sentinel, .data, .data, .pinned], laidTests := true, laidLooks := .later }
def CourtForgedCardSaid : Prop := Claim7.holds Tryz.pinned (.plain (OpenSpec.ofChange courtForgedSpec)) courtForgedCard

/-- THE SECOND FORM's CARD OF 'sorteslaw33.CourtForged'. -/
def courtForgedUptoCard : Claim7 := { stood := { row := courtForgedUptoRow, standIns := [], harness := (true, "5738dd3950d99018974b07901566c57b64eea02187c11e86312278e29e3a0e21"), looks := true }, kinds := [], alts := [], laidByText := true, laidKinds := [.data, .data, .data, .data, .sentinel, .sentinel, .data, .data, .pinned], laidTests := true, laidLooks := .later }
def CourtForgedUptoCardSaid : Prop := Claim7.holds Tryz.pinned (.plain (OpenSpec.upto courtForgedSpec)) courtForgedUptoCard
end Rows
end Go.Proofs.YtmjlkkbbnkanpaaGreatDoor
