/-
  DERIVED. GIVEN WITH THE SEED: THE CARDS: each row of YtabnlklkfgojgaaGreatDoorRows.lean that lists a variable, with what it lists TIED to the program's text (the seventh form; the later family's looks); each row that meets fmt, with fmt's text TOLD by the authors' own Lean function (tested against real Go, not proved from fmt's source: count such statements apart). THE CARD IS WHAT COUNTS. Prove the row's statement (the work); the ties are given (YtabnlklkfgojgaaGreatDoorTie.lean); close each card by the builder's one call (the guide's Derived/Test/ToyasCard.lean, 'card_holds'). Laid BY PROGRAM, IN A SANDBOX (cutbox-door.mjs). By AI agents, Wed Nov 11 2026. No macro, syntax, notation, axiom, sorry.
-/
import Derived.Test.YtabnlklkfgojgaaGreatDoorRows
import GoSem.ClaimSeven
namespace Go.Proofs.YtabnlklkfgojgaaGreatDoor
namespace Rows

/-- THE TIED CARD OF 'sorteslaw27.KioskLearns'. -/
def kioskLearnsCard : Claim7 := { stood := { row := kioskLearnsRow, standIns := [], harness := (true, "def04033e07c6074904aa667e025bea59e6dd517929ffbfeebabcdc08d322cdd"), looks := true }, kinds := [], alts := [], laidByText := true, laidKinds := [.data, .data, .data, .sentinel, .sentinel, .data, .data], laidTests := true, laidLooks := .later }
def KioskLearnsCardSaid : Prop := Claim7.holds Tryz.pinned (.plain (OpenSpec.ofChange kioskLearnsSpec)) kioskLearnsCard

/-- THE TIED CARD OF 'sorteslaw27.KioskNames'. -/
def kioskNamesCard : Claim7 := { stood := { row := kioskNamesRow, standIns := [], harness := (true, "def04033e07c6074904aa667e025bea59e6dd517929ffbfeebabcdc08d322cdd"), looks := true }, kinds := [], alts := [], laidByText := true, laidKinds := [.data, .data, .data, .sentinel, .sentinel, .data, .data], laidTests := true, laidLooks := .later }
def KioskNamesCardSaid : Prop := Claim7.holds Tryz.pinned (.plain (OpenSpec.ofChange kioskNamesSpec)) kioskNamesCard

/-- THE TIED CARD OF 'sorteslaw27.KioskPaper'. -/
def kioskPaperCard : Claim7 := { stood := { row := kioskPaperRow, standIns := [], harness := (true, "def04033e07c6074904aa667e025bea59e6dd517929ffbfeebabcdc08d322cdd"), looks := true }, kinds := [], alts := [], laidByText := true, laidKinds := [.data, .data, .data, .sentinel, .sentinel, .data, .data], laidTests := true, laidLooks := .later }
def KioskPaperCardSaid : Prop := Claim7.holds Tryz.pinned (.plain (OpenSpec.ofChange kioskPaperSpec)) kioskPaperCard

/-- THE TIED CARD OF 'sorteslaw27.KioskNil'. -/
def kioskNilCard : Claim7 := { stood := { row := kioskNilRow, standIns := [], harness := (true, "def04033e07c6074904aa667e025bea59e6dd517929ffbfeebabcdc08d322cdd"), looks := true }, kinds := [], alts := [], laidByText := true, laidKinds := [.data, .data, .data, .sentinel, .sentinel, .data, .data], laidTests := true, laidLooks := .later }
def KioskNilCardSaid : Prop := Claim7.holds Tryz.pinned (.plain (OpenSpec.ofChange kioskNilSpec)) kioskNilCard

/-- THE TIED CARD OF 'sorteslaw27.KioskOnce'. -/
def kioskOnceCard : Claim7 := { stood := { row := kioskOnceRow, standIns := [], harness := (true, "def04033e07c6074904aa667e025bea59e6dd517929ffbfeebabcdc08d322cdd"), looks := true }, kinds := [], alts := [], laidByText := true, laidKinds := [.data, .data, .data, .sentinel, .sentinel, .data, .data], laidTests := true, laidLooks := .later }
def KioskOnceCardSaid : Prop := Claim7.holds Tryz.pinned (.plain (OpenSpec.ofChange kioskOnceSpec)) kioskOnceCard

/-- THE TIED CARD OF 'sorteslaw27.KioskChains'. -/
def kioskChainsCard : Claim7 := { stood := { row := kioskChainsRow, standIns := [], harness := (true, "def04033e07c6074904aa667e025bea59e6dd517929ffbfeebabcdc08d322cdd"), looks := true }, kinds := [], alts := [], laidByText := true, laidKinds := [.data, .data, .data, .sentinel, .sentinel, .data, .data], laidTests := true, laidLooks := .later }
def KioskChainsCardSaid : Prop := Claim7.holds Tryz.pinned (.plain (OpenSpec.ofChange kioskChainsSpec)) kioskChainsCard

/-- THE SECOND FORM's CARD OF 'sorteslaw27.KioskLearns'. -/
def kioskLearnsUptoCard : Claim7 := { stood := { row := kioskLearnsUptoRow, standIns := [], harness := (true, "def04033e07c6074904aa667e025bea59e6dd517929ffbfeebabcdc08d322cdd"), looks := true }, kinds := [], alts := [], laidByText := true, laidKinds := [.data, .data, .data, .sentinel, .sentinel, .data, .data], laidTests := true, laidLooks := .later }
def KioskLearnsUptoCardSaid : Prop := Claim7.holds Tryz.pinned (.plain (OpenSpec.upto kioskLearnsSpec)) kioskLearnsUptoCard

/-- THE SECOND FORM's CARD OF 'sorteslaw27.KioskNames'. -/
def kioskNamesUptoCard : Claim7 := { stood := { row := kioskNamesUptoRow, standIns := [], harness := (true, "def04033e07c6074904aa667e025bea59e6dd517929ffbfeebabcdc08d322cdd"), looks := true }, kinds := [], alts := [], laidByText := true, laidKinds := [.data, .data, .data, .sentinel, .sentinel, .data, .data], laidTests := true, laidLooks := .later }
def KioskNamesUptoCardSaid : Prop := Claim7.holds Tryz.pinned (.plain (OpenSpec.upto kioskNamesSpec)) kioskNamesUptoCard

/-- THE SECOND FORM's CARD OF 'sorteslaw27.KioskPaper'. -/
def kioskPaperUptoCard : Claim7 := { stood := { row := kioskPaperUptoRow, standIns := [], harness := (true, "def04033e07c6074904aa667e025bea59e6dd517929ffbfeebabcdc08d322cdd"), looks := true }, kinds := [], alts := [], laidByText := true, laidKinds := [.data, .data, .data, .sentinel, .sentinel, .data, .data], laidTests := true, laidLooks := .later }
def KioskPaperUptoCardSaid : Prop := Claim7.holds Tryz.pinned (.plain (OpenSpec.upto kioskPaperSpec)) kioskPaperUptoCard

/-- THE SECOND FORM's CARD OF 'sorteslaw27.KioskNil'. -/
def kioskNilUptoCard : Claim7 := { stood := { row := kioskNilUptoRow, standIns := [], harness := (true, "def04033e07c6074904aa667e025bea59e6dd517929ffbfeebabcdc08d322cdd"), looks := true }, kinds := [], alts := [], laidByText := true, laidKinds := [.data, .data, .data, .sentinel, .sentinel, .data, .data], laidTests := true, laidLooks := .later }
def KioskNilUptoCardSaid : Prop := Claim7.holds Tryz.pinned (.plain (OpenSpec.upto kioskNilSpec)) kioskNilUptoCard

/-- THE SECOND FORM's CARD OF 'sorteslaw27.KioskOnce'. -/
def kioskOnceUptoCard : Claim7 := { stood := { row := kioskOnceUptoRow, standIns := [], harness := (true, "def04033e07c6074904aa667e025bea59e6dd517929ffbfeebabcdc08d322cdd"), looks := true }, kinds := [], alts := [], laidByText := true, laidKinds := [.data, .data, .data, .sentinel, .sentinel, .data, .data], laidTests := true, laidLooks := .later }
def KioskOnceUptoCardSaid : Prop := Claim7.holds Tryz.pinned (.plain (OpenSpec.upto kioskOnceSpec)) kioskOnceUptoCard

/-- THE SECOND FORM's CARD OF 'sorteslaw27.KioskChains'. -/
def kioskChainsUptoCard : Claim7 := { stood := { row := kioskChainsUptoRow, standIns := [], harness := (true, "def04033e07c6074904aa667e025bea59e6dd517929ffbfeebabcdc08d322cdd"), looks := true }, kinds := [], alts := [], laidByText := true, laidKinds := [.data, .data, .data, .sentinel, .sentinel, .data, .data], laidTests := true, laidLooks := .later }
def KioskChainsUptoCardSaid : Prop := Claim7.holds Tryz.pinned (.plain (OpenSpec.upto kioskChainsSpec)) kioskChainsUptoCard
end Rows
end Go.Proofs.YtabnlklkfgojgaaGreatDoor
