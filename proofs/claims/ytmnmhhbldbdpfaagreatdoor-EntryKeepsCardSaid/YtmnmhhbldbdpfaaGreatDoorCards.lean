/-
  DERIVED. GIVEN WITH THE SEED: THE CARDS: each row of YtmnmhhbldbdpfaaGreatDoorRows.lean that lists a variable, with what it lists TIED to the program's text (the seventh form; the later family's looks); each row that meets fmt, with fmt's text TOLD by the authors' own Lean function (tested against real Go, not proved from fmt's source: count such statements apart). THE CARD IS WHAT COUNTS. Prove the row's statement (the work); the ties are given (YtmnmhhbldbdpfaaGreatDoorTie.lean); close each card by the builder's one call (the guide's Derived/Test/ToyasCard.lean, 'card_holds'). Laid BY PROGRAM, IN A SANDBOX (cutbox-door.mjs). By AI agents, Wed Nov 11 2026. No macro, syntax, notation, axiom, sorry.
-/
import Derived.Test.YtmnmhhbldbdpfaaGreatDoorRows
import GoSem.ClaimSeven
namespace Go.Proofs.YtmnmhhbldbdpfaaGreatDoor
namespace Rows

/-- THE TIED CARD OF 'sorteslaw22.EntryTexts'. -/
def entryTextsCard : Claim7 := { stood := { row := entryTextsRow, standIns := [], harness := (true, "eed72c0c3e14811c593b6c5e598d495e64fae85a1da6c568a5637af1bd825f7e"), looks := true }, kinds := [], alts := [], laidByText := true, laidKinds := [.data, .data, .data, .sentinel, .sentinel, .data, .data], laidTests := true, laidLooks := .later }
def EntryTextsCardSaid : Prop := Claim7.holds Tryz.pinned (.plain (OpenSpec.ofChange entryTextsSpec)) entryTextsCard

/-- THE TIED CARD OF 'sorteslaw22.EntryBatches'. -/
def entryBatchesCard : Claim7 := { stood := { row := entryBatchesRow, standIns := [], harness := (true, "eed72c0c3e14811c593b6c5e598d495e64fae85a1da6c568a5637af1bd825f7e"), looks := true }, kinds := [], alts := [], laidByText := true, laidKinds := [.data, .data, .data, .sentinel, .sentinel, .data, .data], laidTests := true, laidLooks := .later }
def EntryBatchesCardSaid : Prop := Claim7.holds Tryz.pinned (.plain (OpenSpec.ofChange entryBatchesSpec)) entryBatchesCard

/-- THE TIED CARD OF 'sorteslaw22.EntryDiffer'. -/
def entryDifferCard : Claim7 := { stood := { row := entryDifferRow, standIns := [], harness := (true, "eed72c0c3e14811c593b6c5e598d495e64fae85a1da6c568a5637af1bd825f7e"), looks := true }, kinds := [], alts := [], laidByText := true, laidKinds := [.data, .data, .data, .sentinel, .sentinel, .data, .data], laidTests := true, laidLooks := .later }
def EntryDifferCardSaid : Prop := Claim7.holds Tryz.pinned (.plain (OpenSpec.ofChange entryDifferSpec)) entryDifferCard

/-- THE TIED CARD OF 'sorteslaw22.EntryVerifies'. -/
def entryVerifiesCard : Claim7 := { stood := { row := entryVerifiesRow, standIns := [], harness := (true, "eed72c0c3e14811c593b6c5e598d495e64fae85a1da6c568a5637af1bd825f7e"), looks := true }, kinds := [], alts := [], laidByText := true, laidKinds := [.data, .data, .data, .sentinel, .sentinel, .data, .data], laidTests := true, laidLooks := .later }
def EntryVerifiesCardSaid : Prop := Claim7.holds Tryz.pinned (.plain (OpenSpec.ofChange entryVerifiesSpec)) entryVerifiesCard

/-- THE TIED CARD OF 'sorteslaw22.EntryPrints'. -/
def entryPrintsCard : Claim7 := { stood := { row := entryPrintsRow, standIns := [], harness := (true, "eed72c0c3e14811c593b6c5e598d495e64fae85a1da6c568a5637af1bd825f7e"), looks := true }, kinds := [], alts := [], laidByText := true, laidKinds := [.data, .data, .data, .sentinel, .sentinel, .data, .data], laidTests := true, laidLooks := .later }
def EntryPrintsCardSaid : Prop := Claim7.holds Tryz.pinned (.plain (OpenSpec.ofChange entryPrintsSpec)) entryPrintsCard

/-- THE TIED CARD OF 'sorteslaw22.EntryChains'. -/
def entryChainsCard : Claim7 := { stood := { row := entryChainsRow, standIns := [], harness := (true, "eed72c0c3e14811c593b6c5e598d495e64fae85a1da6c568a5637af1bd825f7e"), looks := true }, kinds := [], alts := [], laidByText := true, laidKinds := [.data, .data, .data, .sentinel, .sentinel, .data, .data], laidTests := true, laidLooks := .later }
def EntryChainsCardSaid : Prop := Claim7.holds Tryz.pinned (.plain (OpenSpec.ofChange entryChainsSpec)) entryChainsCard

/-- THE TIED CARD OF 'sorteslaw22.EntrySeals'. -/
def entrySealsCard : Claim7 := { stood := { row := entrySealsRow, standIns := [], harness := (true, "eed72c0c3e14811c593b6c5e598d495e64fae85a1da6c568a5637af1bd825f7e"), looks := true }, kinds := [], alts := [], laidByText := true, laidKinds := [.data, .data, .data, .sentinel, .sentinel, .data, .data], laidTests := true, laidLooks := .later }
def EntrySealsCardSaid : Prop := Claim7.holds Tryz.pinned (.plain (OpenSpec.ofChange entrySealsSpec)) entrySealsCard

/-- THE TIED CARD OF 'sorteslaw22.EntryKeeps'. -/
def entryKeepsCard : Claim7 := { stood := { row := entryKeepsRow, standIns := [], harness := (true, "eed72c0c3e14811c593b6c5e598d495e64fae85a1da6c568a5637af1bd825f7e"), looks := true }, kinds := [], alts := [], laidByText := true, laidKinds := [.data, .data, .data, .sentinel, .sentinel, .data, .data], laidTests := true, laidLooks := .later }
def EntryKeepsCardSaid : Prop := Claim7.holds Tryz.pinned (.plain (OpenSpec.ofChange entryKeepsSpec)) entryKeepsCard

/-- THE SECOND FORM's CARD OF 'sorteslaw22.EntryTexts'. -/
def entryTextsUptoCard : Claim7 := { stood := { row := entryTextsUptoRow, standIns := [], harness := (true, "eed72c0c3e14811c593b6c5e598d495e64fae85a1da6c568a5637af1bd825f7e"), looks := true }, kinds := [], alts := [], laidByText := true, laidKinds := [.data, .data, .data, .sentinel, .sentinel, .data, .data], laidTests := true, laidLooks := .later }
def EntryTextsUptoCardSaid : Prop := Claim7.holds Tryz.pinned (.plain (OpenSpec.upto entryTextsSpec)) entryTextsUptoCard

/-- THE SECOND FORM's CARD OF 'sorteslaw22.EntryBatches'. -/
def entryBatchesUptoCard : Claim7 := { stood := { row := entryBatchesUptoRow, standIns := [], harness := (true, "eed72c0c3e14811c593b6c5e598d495e64fae85a1da6c568a5637af1bd825f7e"), looks := true }, kinds := [], alts := [], laidByText := true, laidKinds := [.data, .data, .data, .sentinel, .sentinel, .data, .data], laidTests := true, laidLooks := .later }
def EntryBatchesUptoCardSaid : Prop := Claim7.holds Tryz.pinned (.plain (OpenSpec.upto entryBatchesSpec)) entryBatchesUptoCard

/-- THE SECOND FORM's CARD OF 'sorteslaw22.EntryDiffer'. -/
def entryDifferUptoCard : Claim7 := { stood := { row := entryDifferUptoRow, standIns := [], harness := (true, "eed72c0c3e14811c593b6c5e598d495e64fae85a1da6c568a5637af1bd825f7e"), looks := true }, kinds := [], alts := [], laidByText := true, laidKinds := [.data, .data, .data, .sentinel, .sentinel, .data, .data], laidTests := true, laidLooks := .later }
def EntryDifferUptoCardSaid : Prop := Claim7.holds Tryz.pinned (.plain (OpenSpec.upto entryDifferSpec)) entryDifferUptoCard

/-- THE SECOND FORM's CARD OF 'sorteslaw22.EntryVerifies'. -/
def entryVerifiesUptoCard : Claim7 := { stood := { row := entryVerifiesUptoRow, standIns := [], harness := (true, "eed72c0c3e14811c593b6c5e598d495e64fae85a1da6c568a5637af1bd825f7e"), looks := true }, kinds := [], alts := [], laidByText := true, laidKinds := [.data, .data, .data, .sentinel, .sentinel, .data, .data], laidTests := true, laidLooks := .later }
def EntryVerifiesUptoCardSaid : Prop := Claim7.holds Tryz.pinned (.plain (OpenSpec.upto entryVerifiesSpec)) entryVerifiesUptoCard

/-- THE SECOND FORM's CARD OF 'sorteslaw22.EntryPrints'. -/
def entryPrintsUptoCard : Claim7 := { stood := { row := entryPrintsUptoRow, standIns := [], harness := (true, "eed72c0c3e14811c593b6c5e598d495e64fae85a1da6c568a5637af1bd825f7e"), looks := true }, kinds := [], alts := [], laidByText := true, laidKinds := [.data, .data, .data, .sentinel, .sentinel, .data, .data], laidTests := true, laidLooks := .later }
def EntryPrintsUptoCardSaid : Prop := Claim7.holds Tryz.pinned (.plain (OpenSpec.upto entryPrintsSpec)) entryPrintsUptoCard

/-- THE SECOND FORM's CARD OF 'sorteslaw22.EntryChains'. -/
def entryChainsUptoCard : Claim7 := { stood := { row := entryChainsUptoRow, standIns := [], harness := (true, "eed72c0c3e14811c593b6c5e598d495e64fae85a1da6c568a5637af1bd825f7e"), looks := true }, kinds := [], alts := [], laidByText := true, laidKinds := [.data, .data, .data, .sentinel, .sentinel, .data, .data], laidTests := true, laidLooks := .later }
def EntryChainsUptoCardSaid : Prop := Claim7.holds Tryz.pinned (.plain (OpenSpec.upto entryChainsSpec)) entryChainsUptoCard

/-- THE SECOND FORM's CARD OF 'sorteslaw22.EntrySeals'. -/
def entrySealsUptoCard : Claim7 := { stood := { row := entrySealsUptoRow, standIns := [], harness := (true, "eed72c0c3e14811c593b6c5e598d495e64fae85a1da6c568a5637af1bd825f7e"), looks := true }, kinds := [], alts := [], laidByText := true, laidKinds := [.data, .data, .data, .sentinel, .sentinel, .data, .data], laidTests := true, laidLooks := .later }
def EntrySealsUptoCardSaid : Prop := Claim7.holds Tryz.pinned (.plain (OpenSpec.upto entrySealsSpec)) entrySealsUptoCard

/-- THE SECOND FORM's CARD OF 'sorteslaw22.EntryKeeps'. -/
def entryKeepsUptoCard : Claim7 := { stood := { row := entryKeepsUptoRow, standIns := [], harness := (true, "eed72c0c3e14811c593b6c5e598d495e64fae85a1da6c568a5637af1bd825f7e"), looks := true }, kinds := [], alts := [], laidByText := true, laidKinds := [.data, .data, .data, .sentinel, .sentinel, .data, .data], laidTests := true, laidLooks := .later }
def EntryKeepsUptoCardSaid : Prop := Claim7.holds Tryz.pinned (.plain (OpenSpec.upto entryKeepsSpec)) entryKeepsUptoCard
end Rows
end Go.Proofs.YtmnmhhbldbdpfaaGreatDoor
