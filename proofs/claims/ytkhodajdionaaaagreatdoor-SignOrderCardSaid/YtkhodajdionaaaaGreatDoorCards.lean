/-
  DERIVED. GIVEN WITH THE SEED: THE CARDS: each row of YtkhodajdionaaaaGreatDoorRows.lean that lists a variable, with what it lists TIED to the program's text (the seventh form; the later family's looks); each row that meets fmt, with fmt's text TOLD by the authors' own Lean function (tested against real Go, not proved from fmt's source: count such statements apart). THE CARD IS WHAT COUNTS. Prove the row's statement (the work); the ties are given (YtkhodajdionaaaaGreatDoorTie.lean); close each card by the builder's one call (the guide's Derived/Test/ToyasCard.lean, 'card_holds'). Laid BY PROGRAM, IN A SANDBOX (cutbox-door.mjs). By AI agents, Wed Nov 11 2026. No macro, syntax, notation, axiom, sorry.
-/
import Derived.Test.YtkhodajdionaaaaGreatDoorRows
import GoSem.ClaimSeven
namespace Go.Proofs.YtkhodajdionaaaaGreatDoor
namespace Rows

/-- THE TIED CARD OF 'sorteslaw06.EqualProves'. -/
def equalProvesCard : Claim7 := { stood := { row := equalProvesRow, standIns := [], harness := (true, "1a659caa3dc7bdc384041a2ad4966051730589f2447fa2aae61f693820e551dc"), looks := true }, kinds := [], alts := [], laidByText := true, laidKinds := [.data, .data, .data, .sentinel, .sentinel, .data, .data], laidTests := true, laidLooks := .later }
def EqualProvesCardSaid : Prop := Claim7.holds Tryz.pinned (.plain (OpenSpec.ofChange equalProvesSpec)) equalProvesCard

/-- THE TIED CARD OF 'sorteslaw06.EqualMany'. -/
def equalManyCard : Claim7 := { stood := { row := equalManyRow, standIns := [], harness := (true, "1a659caa3dc7bdc384041a2ad4966051730589f2447fa2aae61f693820e551dc"), looks := true }, kinds := [], alts := [], laidByText := true, laidKinds := [.data, .data, .data, .sentinel, .sentinel, .data, .data], laidTests := true, laidLooks := .later }
def EqualManyCardSaid : Prop := Claim7.holds Tryz.pinned (.plain (OpenSpec.ofChange equalManySpec)) equalManyCard

/-- THE TIED CARD OF 'sorteslaw06.EqualChecks'. -/
def equalChecksCard : Claim7 := { stood := { row := equalChecksRow, standIns := [], harness := (true, "1a659caa3dc7bdc384041a2ad4966051730589f2447fa2aae61f693820e551dc"), looks := true }, kinds := [], alts := [], laidByText := true, laidKinds := [.data, .data, .data, .sentinel, .sentinel, .data, .data], laidTests := true, laidLooks := .later }
def EqualChecksCardSaid : Prop := Claim7.holds Tryz.pinned (.plain (OpenSpec.ofChange equalChecksSpec)) equalChecksCard

/-- THE TIED CARD OF 'sorteslaw06.EqualFalse'. -/
def equalFalseCard : Claim7 := { stood := { row := equalFalseRow, standIns := [], harness := (true, "1a659caa3dc7bdc384041a2ad4966051730589f2447fa2aae61f693820e551dc"), looks := true }, kinds := [], alts := [], laidByText := true, laidKinds := [.data, .data, .data, .sentinel, .sentinel, .data, .data], laidTests := true, laidLooks := .later }
def EqualFalseCardSaid : Prop := Claim7.holds Tryz.pinned (.plain (OpenSpec.ofChange equalFalseSpec)) equalFalseCard

/-- THE TIED CARD OF 'sorteslaw05.SignChecks'. -/
def signChecksCard : Claim7 := { stood := { row := signChecksRow, standIns := [], harness := (true, "1a659caa3dc7bdc384041a2ad4966051730589f2447fa2aae61f693820e551dc"), looks := true }, kinds := [], alts := [], laidByText := true, laidKinds := [.data, .data, .data, .sentinel, .sentinel, .data, .data], laidTests := true, laidLooks := .later }
def SignChecksCardSaid : Prop := Claim7.holds Tryz.pinned (.plain (OpenSpec.ofChange signChecksSpec)) signChecksCard

/-- THE TIED CARD OF 'sorteslaw05.SignOrder'. -/
def signOrderCard : Claim7 := { stood := { row := signOrderRow, standIns := [], harness := (true, "1a659caa3dc7bdc384041a2ad4966051730589f2447fa2aae61f693820e551dc"), looks := true }, kinds := [], alts := [], laidByText := true, laidKinds := [.data, .data, .data, .sentinel, .sentinel, .data, .data], laidTests := true, laidLooks := .later }
def SignOrderCardSaid : Prop := Claim7.holds Tryz.pinned (.plain (OpenSpec.ofChange signOrderSpec)) signOrderCard

/-- THE SECOND FORM's CARD OF 'sorteslaw06.EqualProves'. -/
def equalProvesUptoCard : Claim7 := { stood := { row := equalProvesUptoRow, standIns := [], harness := (true, "1a659caa3dc7bdc384041a2ad4966051730589f2447fa2aae61f693820e551dc"), looks := true }, kinds := [], alts := [], laidByText := true, laidKinds := [.data, .data, .data, .sentinel, .sentinel, .data, .data], laidTests := true, laidLooks := .later }
def EqualProvesUptoCardSaid : Prop := Claim7.holds Tryz.pinned (.plain (OpenSpec.upto equalProvesSpec)) equalProvesUptoCard

/-- THE SECOND FORM's CARD OF 'sorteslaw06.EqualMany'. -/
def equalManyUptoCard : Claim7 := { stood := { row := equalManyUptoRow, standIns := [], harness := (true, "1a659caa3dc7bdc384041a2ad4966051730589f2447fa2aae61f693820e551dc"), looks := true }, kinds := [], alts := [], laidByText := true, laidKinds := [.data, .data, .data, .sentinel, .sentinel, .data, .data], laidTests := true, laidLooks := .later }
def EqualManyUptoCardSaid : Prop := Claim7.holds Tryz.pinned (.plain (OpenSpec.upto equalManySpec)) equalManyUptoCard

/-- THE SECOND FORM's CARD OF 'sorteslaw06.EqualChecks'. -/
def equalChecksUptoCard : Claim7 := { stood := { row := equalChecksUptoRow, standIns := [], harness := (true, "1a659caa3dc7bdc384041a2ad4966051730589f2447fa2aae61f693820e551dc"), looks := true }, kinds := [], alts := [], laidByText := true, laidKinds := [.data, .data, .data, .sentinel, .sentinel, .data, .data], laidTests := true, laidLooks := .later }
def EqualChecksUptoCardSaid : Prop := Claim7.holds Tryz.pinned (.plain (OpenSpec.upto equalChecksSpec)) equalChecksUptoCard

/-- THE SECOND FORM's CARD OF 'sorteslaw06.EqualFalse'. -/
def equalFalseUptoCard : Claim7 := { stood := { row := equalFalseUptoRow, standIns := [], harness := (true, "1a659caa3dc7bdc384041a2ad4966051730589f2447fa2aae61f693820e551dc"), looks := true }, kinds := [], alts := [], laidByText := true, laidKinds := [.data, .data, .data, .sentinel, .sentinel, .data, .data], laidTests := true, laidLooks := .later }
def EqualFalseUptoCardSaid : Prop := Claim7.holds Tryz.pinned (.plain (OpenSpec.upto equalFalseSpec)) equalFalseUptoCard

/-- THE SECOND FORM's CARD OF 'sorteslaw05.SignChecks'. -/
def signChecksUptoCard : Claim7 := { stood := { row := signChecksUptoRow, standIns := [], harness := (true, "1a659caa3dc7bdc384041a2ad4966051730589f2447fa2aae61f693820e551dc"), looks := true }, kinds := [], alts := [], laidByText := true, laidKinds := [.data, .data, .data, .sentinel, .sentinel, .data, .data], laidTests := true, laidLooks := .later }
def SignChecksUptoCardSaid : Prop := Claim7.holds Tryz.pinned (.plain (OpenSpec.upto signChecksSpec)) signChecksUptoCard

/-- THE SECOND FORM's CARD OF 'sorteslaw05.SignOrder'. -/
def signOrderUptoCard : Claim7 := { stood := { row := signOrderUptoRow, standIns := [], harness := (true, "1a659caa3dc7bdc384041a2ad4966051730589f2447fa2aae61f693820e551dc"), looks := true }, kinds := [], alts := [], laidByText := true, laidKinds := [.data, .data, .data, .sentinel, .sentinel, .data, .data], laidTests := true, laidLooks := .later }
def SignOrderUptoCardSaid : Prop := Claim7.holds Tryz.pinned (.plain (OpenSpec.upto signOrderSpec)) signOrderUptoCard
end Rows
end Go.Proofs.YtkhodajdionaaaaGreatDoor
