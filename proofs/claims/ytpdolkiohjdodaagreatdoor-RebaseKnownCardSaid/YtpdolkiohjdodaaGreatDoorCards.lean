/-
  DERIVED. GIVEN WITH THE SEED: THE CARDS: each row of YtpdolkiohjdodaaGreatDoorRows.lean that lists a variable, with what it lists TIED to the program's text (the seventh form; the later family's looks); each row that meets fmt, with fmt's text TOLD by the authors' own Lean function (tested against real Go, not proved from fmt's source: count such statements apart). THE CARD IS WHAT COUNTS. Prove the row's statement (the work); the ties are given (YtpdolkiohjdodaaGreatDoorTie.lean); close each card by the builder's one call (the guide's Derived/Test/ToyasCard.lean, 'card_holds'). Laid BY PROGRAM, IN A SANDBOX (cutbox-door.mjs). By AI agents, Wed Nov 11 2026. No macro, syntax, notation, axiom, sorry.
-/
import Derived.Test.YtpdolkiohjdodaaGreatDoorRows
import GoSem.ClaimSeven
namespace Go.Proofs.YtpdolkiohjdodaaGreatDoor
namespace Rows

/-- THE TIED CARD OF 'quaysidelaw17.RebaseFollows'. -/
def rebaseFollowsCard : Claim7 := { stood := { row := rebaseFollowsRow, standIns := [], harness := (true, "a9f399040d2a45a851922d101acbc7dd0cbe0dc135db46843e2bf27bb09db207"), looks := true }, kinds := [], alts := [], laidByText := true, laidKinds := [.data], laidTests := true, laidLooks := .later }
def RebaseFollowsCardSaid : Prop := Claim7.holds Tryz.pinned (.plain (OpenSpec.ofChange rebaseFollowsSpec)) rebaseFollowsCard

/-- THE TIED CARD OF 'quaysidelaw17.RebaseKnown'. -/
def rebaseKnownCard : Claim7 := { stood := { row := rebaseKnownRow, standIns := [], harness := (true, "a9f399040d2a45a851922d101acbc7dd0cbe0dc135db46843e2bf27bb09db207"), looks := true }, kinds := [], alts := [], laidByText := true, laidKinds := [.data], laidTests := true, laidLooks := .later }
def RebaseKnownCardSaid : Prop := Claim7.holds Tryz.pinned (.plain (OpenSpec.ofChange rebaseKnownSpec)) rebaseKnownCard

/-- THE SECOND FORM's CARD OF 'quaysidelaw17.RebaseFollows'. -/
def rebaseFollowsUptoCard : Claim7 := { stood := { row := rebaseFollowsUptoRow, standIns := [], harness := (true, "a9f399040d2a45a851922d101acbc7dd0cbe0dc135db46843e2bf27bb09db207"), looks := true }, kinds := [], alts := [], laidByText := true, laidKinds := [.data], laidTests := true, laidLooks := .later }
def RebaseFollowsUptoCardSaid : Prop := Claim7.holds Tryz.pinned (.plain (OpenSpec.upto rebaseFollowsSpec)) rebaseFollowsUptoCard

/-- THE SECOND FORM's CARD OF 'quaysidelaw17.RebaseKnown'. -/
def rebaseKnownUptoCard : Claim7 := { stood := { row := rebaseKnownUptoRow, standIns := [], harness := (true, "a9f399040d2a45a851922d101acbc7dd0cbe0dc135db46843e2bf27bb09db207"), looks := true }, kinds := [], alts := [], laidByText := true, laidKinds := [.data], laidTests := true, laidLooks := .later }
def RebaseKnownUptoCardSaid : Prop := Claim7.holds Tryz.pinned (.plain (OpenSpec.upto rebaseKnownSpec)) rebaseKnownUptoCard
end Rows
end Go.Proofs.YtpdolkiohjdodaaGreatDoor
