/-
  DERIVED. GIVEN WITH THE SEED: THE CARDS: each row of YtbbabhaalmkbkaaGreatDoorRows.lean that lists a variable, with what it lists TIED to the program's text (the seventh form; the later family's looks); each row that meets fmt, with fmt's text TOLD by the authors' own Lean function (tested against real Go, not proved from fmt's source: count such statements apart). THE CARD IS WHAT COUNTS. Prove the row's statement (the work); the ties are given (YtbbabhaalmkbkaaGreatDoorTie.lean); close each card by the builder's one call (the guide's Derived/Test/ToyasCard.lean, 'card_holds'). Laid BY PROGRAM, IN A SANDBOX (cutbox-door.mjs). By AI agents, Wed Nov 11 2026. No macro, syntax, notation, axiom, sorry.
-/
import Derived.Test.YtbbabhaalmkbkaaGreatDoorRows
import GoSem.ClaimSeven
namespace Go.Proofs.YtbbabhaalmkbkaaGreatDoor
namespace Rows

/-- THE TIED CARD OF 'quaysidelaw15.ValidDone'. -/
def validDoneCard : Claim7 := { stood := { row := validDoneRow, standIns := [], harness := (true, "7e851b21e8dd1cf0ed3734407c0e28888204fe6cf4377069958e2e9497d04753"), looks := false }, kinds := [], alts := [], laidByText := true, laidKinds := [.data], laidTests := true, laidLooks := .later }
def ValidDoneCardSaid : Prop := Claim7.holds Tryz.pinned (.plain (OpenSpec.ofChange validDoneSpec)) validDoneCard

/-- THE TIED CARD OF 'quaysidelaw15.ValidNumbers'. -/
def validNumbersCard : Claim7 := { stood := { row := validNumbersRow, standIns := [], harness := (true, "7e851b21e8dd1cf0ed3734407c0e28888204fe6cf4377069958e2e9497d04753"), looks := false }, kinds := [], alts := [], laidByText := true, laidKinds := [.data], laidTests := true, laidLooks := .later }
def ValidNumbersCardSaid : Prop := Claim7.holds Tryz.pinned (.plain (OpenSpec.ofChange validNumbersSpec)) validNumbersCard

/-- THE TIED CARD OF 'quaysidelaw15.ValidExpects'. -/
def validExpectsCard : Claim7 := { stood := { row := validExpectsRow, standIns := [], harness := (true, "7e851b21e8dd1cf0ed3734407c0e28888204fe6cf4377069958e2e9497d04753"), looks := false }, kinds := [], alts := [], laidByText := true, laidKinds := [.data], laidTests := true, laidLooks := .later }
def ValidExpectsCardSaid : Prop := Claim7.holds Tryz.pinned (.plain (OpenSpec.ofChange validExpectsSpec)) validExpectsCard

/-- THE SECOND FORM's CARD OF 'quaysidelaw15.ValidDone'. -/
def validDoneUptoCard : Claim7 := { stood := { row := validDoneUptoRow, standIns := [], harness := (true, "7e851b21e8dd1cf0ed3734407c0e28888204fe6cf4377069958e2e9497d04753"), looks := false }, kinds := [], alts := [], laidByText := true, laidKinds := [.data], laidTests := true, laidLooks := .later }
def ValidDoneUptoCardSaid : Prop := Claim7.holds Tryz.pinned (.plain (OpenSpec.upto validDoneSpec)) validDoneUptoCard

/-- THE SECOND FORM's CARD OF 'quaysidelaw15.ValidNumbers'. -/
def validNumbersUptoCard : Claim7 := { stood := { row := validNumbersUptoRow, standIns := [], harness := (true, "7e851b21e8dd1cf0ed3734407c0e28888204fe6cf4377069958e2e9497d04753"), looks := false }, kinds := [], alts := [], laidByText := true, laidKinds := [.data], laidTests := true, laidLooks := .later }
def ValidNumbersUptoCardSaid : Prop := Claim7.holds Tryz.pinned (.plain (OpenSpec.upto validNumbersSpec)) validNumbersUptoCard

/-- THE SECOND FORM's CARD OF 'quaysidelaw15.ValidExpects'. -/
def validExpectsUptoCard : Claim7 := { stood := { row := validExpectsUptoRow, standIns := [], harness := (true, "7e851b21e8dd1cf0ed3734407c0e28888204fe6cf4377069958e2e9497d04753"), looks := false }, kinds := [], alts := [], laidByText := true, laidKinds := [.data], laidTests := true, laidLooks := .later }
def ValidExpectsUptoCardSaid : Prop := Claim7.holds Tryz.pinned (.plain (OpenSpec.upto validExpectsSpec)) validExpectsUptoCard
end Rows
end Go.Proofs.YtbbabhaalmkbkaaGreatDoor
