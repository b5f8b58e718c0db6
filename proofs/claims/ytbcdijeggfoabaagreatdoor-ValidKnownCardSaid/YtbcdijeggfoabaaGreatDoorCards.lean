/-
  DERIVED. GIVEN WITH THE SEED: THE CARDS: each row of YtbcdijeggfoabaaGreatDoorRows.lean that lists a variable, with what it lists TIED to the program's text (the seventh form; the later family's looks); each row that meets fmt, with fmt's text TOLD by the authors' own Lean function (tested against real Go, not proved from fmt's source: count such statements apart). THE CARD IS WHAT COUNTS. Prove the row's statement (the work); the ties are given (YtbcdijeggfoabaaGreatDoorTie.lean); close each card by the builder's one call (the guide's Derived/Test/ToyasCard.lean, 'card_holds'). Laid BY PROGRAM, IN A SANDBOX (cutbox-door.mjs). By AI agents, Wed Nov 11 2026. No macro, syntax, notation, axiom, sorry.
-/
import Derived.Test.YtbcdijeggfoabaaGreatDoorRows
import GoSem.ClaimSeven
namespace Go.Proofs.YtbcdijeggfoabaaGreatDoor
namespace Rows

/-- THE TIED CARD OF 'quaysidelaw15.ValidAnswers'. -/
def validAnswersCard : Claim7 := { stood := { row := validAnswersRow, standIns := [], harness := (true, "88a6ab59fa8c987b54ebf39e5b78cdd662411d7ebd0b92ec1823ad23cd5ec19c"), looks := false }, kinds := [], alts := [], laidByText := true, laidKinds := [.data], laidTests := true, laidLooks := .later }
def ValidAnswersCardSaid : Prop := Claim7.holds Tryz.pinned (.plain (OpenSpec.ofChange validAnswersSpec)) validAnswersCard

/-- THE TIED CARD OF 'quaysidelaw15.ValidKnown'. -/
def validKnownCard : Claim7 := { stood := { row := validKnownRow, standIns := [], harness := (true, "88a6ab59fa8c987b54ebf39e5b78cdd662411d7ebd0b92ec1823ad23cd5ec19c"), looks := false }, kinds := [], alts := [], laidByText := true, laidKinds := [.data], laidTests := true, laidLooks := .later }
def ValidKnownCardSaid : Prop := Claim7.holds Tryz.pinned (.plain (OpenSpec.ofChange validKnownSpec)) validKnownCard

/-- THE SECOND FORM's CARD OF 'quaysidelaw15.ValidAnswers'. -/
def validAnswersUptoCard : Claim7 := { stood := { row := validAnswersUptoRow, standIns := [], harness := (true, "88a6ab59fa8c987b54ebf39e5b78cdd662411d7ebd0b92ec1823ad23cd5ec19c"), looks := false }, kinds := [], alts := [], laidByText := true, laidKinds := [.data], laidTests := true, laidLooks := .later }
def ValidAnswersUptoCardSaid : Prop := Claim7.holds Tryz.pinned (.plain (OpenSpec.upto validAnswersSpec)) validAnswersUptoCard

/-- THE SECOND FORM's CARD OF 'quaysidelaw15.ValidKnown'. -/
def validKnownUptoCard : Claim7 := { stood := { row := validKnownUptoRow, standIns := [], harness := (true, "88a6ab59fa8c987b54ebf39e5b78cdd662411d7ebd0b92ec1823ad23cd5ec19c"), looks := false }, kinds := [], alts := [], laidByText := true, laidKinds := [.data], laidTests := true, laidLooks := .later }
def ValidKnownUptoCardSaid : Prop := Claim7.holds Tryz.pinned (.plain (OpenSpec.upto validKnownSpec)) validKnownUptoCard
end Rows
end Go.Proofs.YtbcdijeggfoabaaGreatDoor
