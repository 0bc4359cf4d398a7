/-
  DERIVED. GIVEN WITH THE SEED: THE CARDS: each row of YtkhodajdionaaaaDoorRows.lean that lists a variable, with what it lists TIED to the program's text (the seventh form; the later family's looks); each row that meets fmt, with fmt's text TOLD by the authors' own Lean function (tested against real Go, not proved from fmt's source: count such statements apart). THE CARD IS WHAT COUNTS. Prove the row's statement (the work); the ties are given (YtkhodajdionaaaaDoorTie.lean); close each card by the builder's one call (the guide's Derived/Test/ToyasCard.lean, 'card_holds'). Laid BY PROGRAM, IN A SANDBOX (cutbox-door.mjs). By AI agents, Wed Nov 11 2026. No macro, syntax, notation, axiom, sorry.
-/
import Derived.Test.YtkhodajdionaaaaDoorRows
import GoSem.ClaimSeven
namespace Go.Proofs.YtkhodajdionaaaaDoor
namespace Rows

/-- THE TIED CARD OF 'sorteslaw06.EqualHolds'. -/
def equalHoldsCard : Claim7 := { stood := { row := equalHoldsRow, standIns := [], harness := (true, "e8762b95d18aa895d7b43c14495b57db46159e7974959dd99cbefceb28d58fb6"), looks := true }, kinds := [], alts := [], laidByText := true, laidKinds := [.data, .data, .data, .sentinel, .sentinel, .data, .data], laidTests := true, laidLooks := .later }
def EqualHoldsCardSaid : Prop := Claim7.holds Tryd.pinned (.plain (OpenSpec.ofChange equalHoldsSpec)) equalHoldsCard

/-- THE TIED CARD OF 'sorteslaw06.EqualOnly'. -/
def equalOnlyCard : Claim7 := { stood := { row := equalOnlyRow, standIns := [], harness := (true, "e8762b95d18aa895d7b43c14495b57db46159e7974959dd99cbefceb28d58fb6"), looks := true }, kinds := [], alts := [], laidByText := true, laidKinds := [.data, .data, .data, .sentinel, .sentinel, .data, .data], laidTests := true, laidLooks := .later }
def EqualOnlyCardSaid : Prop := Claim7.holds Tryd.pinned (.plain (OpenSpec.ofChange equalOnlySpec)) equalOnlyCard

/-- THE TIED CARD OF 'sorteslaw06.EqualTexts'. -/
def equalTextsCard : Claim7 := { stood := { row := equalTextsRow, standIns := [], harness := (true, "e8762b95d18aa895d7b43c14495b57db46159e7974959dd99cbefceb28d58fb6"), looks := true }, kinds := [], alts := [], laidByText := true, laidKinds := [.data, .data, .data, .sentinel, .sentinel, .data, .data], laidTests := true, laidLooks := .later }
def EqualTextsCardSaid : Prop := Claim7.holds Tryd.pinned (.plain (OpenSpec.ofChange equalTextsSpec)) equalTextsCard

/-- THE TIED CARD OF 'sorteslaw06.EqualRange'. -/
def equalRangeCard : Claim7 := { stood := { row := equalRangeRow, standIns := [], harness := (true, "e8762b95d18aa895d7b43c14495b57db46159e7974959dd99cbefceb28d58fb6"), looks := true }, kinds := [], alts := [], laidByText := true, laidKinds := [.data, .data, .data, .sentinel, .sentinel, .data, .data], laidTests := true, laidLooks := .later }
def EqualRangeCardSaid : Prop := Claim7.holds Tryd.pinned (.plain (OpenSpec.ofChange equalRangeSpec)) equalRangeCard

/-- THE TIED CARD OF 'sorteslaw05.SignKeys'. -/
def signKeysCard : Claim7 := { stood := { row := signKeysRow, standIns := [], harness := (true, "e8762b95d18aa895d7b43c14495b57db46159e7974959dd99cbefceb28d58fb6"), looks := true }, kinds := [], alts := [], laidByText := true, laidKinds := [.data, .data, .data, .sentinel, .sentinel, .data, .data], laidTests := true, laidLooks := .later }
def SignKeysCardSaid : Prop := Claim7.holds Tryd.pinned (.plain (OpenSpec.ofChange signKeysSpec)) signKeysCard

/-- THE TIED CARD OF 'sorteslaw05.SignSigns'. -/
def signSignsCard : Claim7 := { stood := { row := signSignsRow, standIns := [], harness := (true, "e8762b95d18aa895d7b43c14495b57db46159e7974959dd99cbefceb28d58fb6"), looks := true }, kinds := [], alts := [], laidByText := true, laidKinds := [.data, .data, .data, .sentinel, .sentinel, .data, .data], laidTests := true, laidLooks := .later }
def SignSignsCardSaid : Prop := Claim7.holds Tryd.pinned (.plain (OpenSpec.ofChange signSignsSpec)) signSignsCard

/-- THE TIED CARD OF 'sorteslaw05.SignVerifies'. -/
def signVerifiesCard : Claim7 := { stood := { row := signVerifiesRow, standIns := [], harness := (true, "e8762b95d18aa895d7b43c14495b57db46159e7974959dd99cbefceb28d58fb6"), looks := true }, kinds := [], alts := [], laidByText := true, laidKinds := [.data, .data, .data, .sentinel, .sentinel, .data, .data], laidTests := true, laidLooks := .later }
def SignVerifiesCardSaid : Prop := Claim7.holds Tryd.pinned (.plain (OpenSpec.ofChange signVerifiesSpec)) signVerifiesCard

/-- THE TIED CARD OF 'sorteslaw05.SignMany'. -/
def signManyCard : Claim7 := { stood := { row := signManyRow, standIns := [], harness := (true, "e8762b95d18aa895d7b43c14495b57db46159e7974959dd99cbefceb28d58fb6"), looks := true }, kinds := [], alts := [], laidByText := true, laidKinds := [.data, .data, .data, .sentinel, .sentinel, .data, .data], laidTests := true, laidLooks := .later }
def SignManyCardSaid : Prop := Claim7.holds Tryd.pinned (.plain (OpenSpec.ofChange signManySpec)) signManyCard

/-- THE TIED CARD OF 'sorteslaw05.SignOne'. -/
def signOneCard : Claim7 := { stood := { row := signOneRow, standIns := [], harness := (true, "e8762b95d18aa895d7b43c14495b57db46159e7974959dd99cbefceb28d58fb6"), looks := true }, kinds := [], alts := [], laidByText := true, laidKinds := [.data, .data, .data, .sentinel, .sentinel, .data, .data], laidTests := true, laidLooks := .later }
def SignOneCardSaid : Prop := Claim7.holds Tryd.pinned (.plain (OpenSpec.ofChange signOneSpec)) signOneCard

/-- THE TIED CARD OF 'sorteslaw05.SignTexts'. -/
def signTextsCard : Claim7 := { stood := { row := signTextsRow, standIns := [], harness := (true, "e8762b95d18aa895d7b43c14495b57db46159e7974959dd99cbefceb28d58fb6"), looks := true }, kinds := [], alts := [], laidByText := true, laidKinds := [.data, .data, .data, .sentinel, .sentinel, .data, .data], laidTests := true, laidLooks := .later }
def SignTextsCardSaid : Prop := Claim7.holds Tryd.pinned (.plain (OpenSpec.ofChange signTextsSpec)) signTextsCard

/-- THE TIED CARD OF 'sorteslaw05.SignChallenge'. -/
def signChallengeCard : Claim7 := { stood := { row := signChallengeRow, standIns := [], harness := (true, "e8762b95d18aa895d7b43c14495b57db46159e7974959dd99cbefceb28d58fb6"), looks := true }, kinds := [], alts := [], laidByText := true, laidKinds := [.data, .data, .data, .sentinel, .sentinel, .data, .data], laidTests := true, laidLooks := .later }
def SignChallengeCardSaid : Prop := Claim7.holds Tryd.pinned (.plain (OpenSpec.ofChange signChallengeSpec)) signChallengeCard

/-- THE SECOND FORM's CARD OF 'sorteslaw06.EqualHolds'. -/
def equalHoldsUptoCard : Claim7 := { stood := { row := equalHoldsUptoRow, standIns := [], harness := (true, "e8762b95d18aa895d7b43c14495b57db46159e7974959dd99cbefceb28d58fb6"), looks := true }, kinds := [], alts := [], laidByText := true, laidKinds := [.data, .data, .data, .sentinel, .sentinel, .data, .data], laidTests := true, laidLooks := .later }
def EqualHoldsUptoCardSaid : Prop := Claim7.holds Tryd.pinned (.plain (OpenSpec.upto equalHoldsSpec)) equalHoldsUptoCard

/-- THE SECOND FORM's CARD OF 'sorteslaw06.EqualOnly'. -/
def equalOnlyUptoCard : Claim7 := { stood := { row := equalOnlyUptoRow, standIns := [], harness := (true, "e8762b95d18aa895d7b43c14495b57db46159e7974959dd99cbefceb28d58fb6"), looks := true }, kinds := [], alts := [], laidByText := true, laidKinds := [.data, .data, .data, .sentinel, .sentinel, .data, .data], laidTests := true, laidLooks := .later }
def EqualOnlyUptoCardSaid : Prop := Claim7.holds Tryd.pinned (.plain (OpenSpec.upto equalOnlySpec)) equalOnlyUptoCard

/-- THE SECOND FORM's CARD OF 'sorteslaw06.EqualTexts'. -/
def equalTextsUptoCard : Claim7 := { stood := { row := equalTextsUptoRow, standIns := [], harness := (true, "e8762b95d18aa895d7b43c14495b57db46159e7974959dd99cbefceb28d58fb6"), looks := true }, kinds := [], alts := [], laidByText := true, laidKinds := [.data, .data, .data, .sentinel, .sentinel, .data, .data], laidTests := true, laidLooks := .later }
def EqualTextsUptoCardSaid : Prop := Claim7.holds Tryd.pinned (.plain (OpenSpec.upto equalTextsSpec)) equalTextsUptoCard

/-- THE SECOND FORM's CARD OF 'sorteslaw06.EqualRange'. -/
def equalRangeUptoCard : Claim7 := { stood := { row := equalRangeUptoRow, standIns := [], harness := (true, "e8762b95d18aa895d7b43c14495b57db46159e7974959dd99cbefceb28d58fb6"), looks := true }, kinds := [], alts := [], laidByText := true, laidKinds := [.data, .data, .data, .sentinel, .sentinel, .data, .data], laidTests := true, laidLooks := .later }
def EqualRangeUptoCardSaid : Prop := Claim7.holds Tryd.pinned (.plain (OpenSpec.upto equalRangeSpec)) equalRangeUptoCard

/-- THE SECOND FORM's CARD OF 'sorteslaw05.SignKeys'. -/
def signKeysUptoCard : Claim7 := { stood := { row := signKeysUptoRow, standIns := [], harness := (true, "e8762b95d18aa895d7b43c14495b57db46159e7974959dd99cbefceb28d58fb6"), looks := true }, kinds := [], alts := [], laidByText := true, laidKinds := [.data, .data, .data, .sentinel, .sentinel, .data, .data], laidTests := true, laidLooks := .later }
def SignKeysUptoCardSaid : Prop := Claim7.holds Tryd.pinned (.plain (OpenSpec.upto signKeysSpec)) signKeysUptoCard

/-- THE SECOND FORM's CARD OF 'sorteslaw05.SignSigns'. -/
def signSignsUptoCard : Claim7 := { stood := { row := signSignsUptoRow, standIns := [], harness := (true, "e8762b95d18aa895d7b43c14495b57db46159e7974959dd99cbefceb28d58fb6"), looks := true }, kinds := [], alts := [], laidByText := true, laidKinds := [.data, .data, .data, .sentinel, .sentinel, .data, .data], laidTests := true, laidLooks := .later }
def SignSignsUptoCardSaid : Prop := Claim7.holds Tryd.pinned (.plain (OpenSpec.upto signSignsSpec)) signSignsUptoCard

/-- THE SECOND FORM's CARD OF 'sorteslaw05.SignVerifies'. -/
def signVerifiesUptoCard : Claim7 := { stood := { row := signVerifiesUptoRow, standIns := [], harness := (true, "e8762b95d18aa895d7b43c14495b57db46159e7974959dd99cbefceb28d58fb6"), looks := true }, kinds := [], alts := [], laidByText := true, laidKinds := [.data, .data, .data, .sentinel, .sentinel, .data, .data], laidTests := true, laidLooks := .later }
def SignVerifiesUptoCardSaid : Prop := Claim7.holds Tryd.pinned (.plain (OpenSpec.upto signVerifiesSpec)) signVerifiesUptoCard

/-- THE SECOND FORM's CARD OF 'sorteslaw05.SignMany'. -/
def signManyUptoCard : Claim7 := { stood := { row := signManyUptoRow, standIns := [], harness := (true, "e8762b95d18aa895d7b43c14495b57db46159e7974959dd99cbefceb28d58fb6"), looks := true }, kinds := [], alts := [], laidByText := true, laidKinds := [.data, .data, .data, .sentinel, .sentinel, .data, .data], laidTests := true, laidLooks := .later }
def SignManyUptoCardSaid : Prop := Claim7.holds Tryd.pinned (.plain (OpenSpec.upto signManySpec)) signManyUptoCard

/-- THE SECOND FORM's CARD OF 'sorteslaw05.SignOne'. -/
def signOneUptoCard : Claim7 := { stood := { row := signOneUptoRow, standIns := [], harness := (true, "e8762b95d18aa895d7b43c14495b57db46159e7974959dd99cbefceb28d58fb6"), looks := true }, kinds := [], alts := [], laidByText := true, laidKinds := [.data, .data, .data, .sentinel, .sentinel, .data, .data], laidTests := true, laidLooks := .later }
def SignOneUptoCardSaid : Prop := Claim7.holds Tryd.pinned (.plain (OpenSpec.upto signOneSpec)) signOneUptoCard

/-- THE SECOND FORM's CARD OF 'sorteslaw05.SignTexts'. -/
def signTextsUptoCard : Claim7 := { stood := { row := signTextsUptoRow, standIns := [], harness := (true, "e8762b95d18aa895d7b43c14495b57db46159e7974959dd99cbefceb28d58fb6"), looks := true }, kinds := [], alts := [], laidByText := true, laidKinds := [.data, .data, .data, .sentinel, .sentinel, .data, .data], laidTests := true, laidLooks := .later }
def SignTextsUptoCardSaid : Prop := Claim7.holds Tryd.pinned (.plain (OpenSpec.upto signTextsSpec)) signTextsUptoCard

/-- THE SECOND FORM's CARD OF 'sorteslaw05.SignChallenge'. -/
def signChallengeUptoCard : Claim7 := { stood := { row := signChallengeUptoRow, standIns := [], harness := (true, "e8762b95d18aa895d7b43c14495b57db46159e7974959dd99cbefceb28d58fb6"), looks := true }, kinds := [], alts := [], laidByText := true, laidKinds := [.data, .data, .data, .sentinel, .sentinel, .data, .data], laidTests := true, laidLooks := .later }
def SignChallengeUptoCardSaid : Prop := Claim7.holds Tryd.pinned (.plain (OpenSpec.upto signChallengeSpec)) signChallengeUptoCard
end Rows
end Go.Proofs.YtkhodajdionaaaaDoor
