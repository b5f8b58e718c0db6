/-
  DERIVED. GIVEN WITH THE SEED: THE CARDS: each row of YtojlbibionhdjaaGreatDoorRows.lean that lists a variable, with what it lists TIED to the program's text (the seventh form; the later family's looks); each row that meets fmt, with fmt's text TOLD by the authors' own Lean function (tested against real Go, not proved from fmt's source: count such statements apart). THE CARD IS WHAT COUNTS. Prove the row's statement (the work); the ties are given (YtojlbibionhdjaaGreatDoorTie.lean); close each card by the builder's one call (the guide's Derived/Test/ToyasCard.lean, 'card_holds'). Laid BY PROGRAM, IN A SANDBOX (cutbox-door.mjs). By AI agents, Wed Nov 11 2026. No macro, syntax, notation, axiom, sorry.
-/
import Derived.Test.YtojlbibionhdjaaGreatDoorRows
import GoSem.ClaimSeven
namespace Go.Proofs.YtojlbibionhdjaaGreatDoor
namespace Rows

/-- THE TIED CARD OF 'quaysidelaw17.RebaseLittle'. -/
def rebaseLittleCard : Claim7 := { stood := { row := rebaseLittleRow, standIns := [], harness := (true, "d2441526f012590f4660c831e3bf5576cf82f5143997cc7faa6af9272b702ac4"), looks := true }, kinds := [], alts := [], laidByText := true, laidKinds := [.data], laidTests := true, laidLooks := .later }
def RebaseLittleCardSaid : Prop := Claim7.holds Tryz.pinned (.plain (OpenSpec.ofChange rebaseLittleSpec)) rebaseLittleCard

/-- THE TIED CARD OF 'quaysidelaw17.RebaseCounts'. -/
def rebaseCountsCard : Claim7 := { stood := { row := rebaseCountsRow, standIns := [], harness := (true, "d2441526f012590f4660c831e3bf5576cf82f5143997cc7faa6af9272b702ac4"), looks := true }, kinds := [], alts := [], laidByText := true, laidKinds := [.data], laidTests := true, laidLooks := .later }
def RebaseCountsCardSaid : Prop := Claim7.holds Tryz.pinned (.plain (OpenSpec.ofChange rebaseCountsSpec)) rebaseCountsCard

/-- THE TIED CARD OF 'quaysidelaw17.RebaseFollows'. -/
def rebaseFollowsCard : Claim7 := { stood := { row := rebaseFollowsRow, standIns := [], harness := (true, "d2441526f012590f4660c831e3bf5576cf82f5143997cc7faa6af9272b702ac4"), looks := true }, kinds := [], alts := [], laidByText := true, laidKinds := [.data], laidTests := true, laidLooks := .later }
def RebaseFollowsCardSaid : Prop := Claim7.holds Tryz.pinned (.plain (OpenSpec.ofChange rebaseFollowsSpec)) rebaseFollowsCard

/-- THE TIED CARD OF 'quaysidelaw17.RebaseSame'. -/
def rebaseSameCard : Claim7 := { stood := { row := rebaseSameRow, standIns := [], harness := (true, "d2441526f012590f4660c831e3bf5576cf82f5143997cc7faa6af9272b702ac4"), looks := true }, kinds := [], alts := [], laidByText := true, laidKinds := [.data], laidTests := true, laidLooks := .later }
def RebaseSameCardSaid : Prop := Claim7.holds Tryz.pinned (.plain (OpenSpec.ofChange rebaseSameSpec)) rebaseSameCard

/-- THE TIED CARD OF 'quaysidelaw17.RebaseKnown'. -/
def rebaseKnownCard : Claim7 := { stood := { row := rebaseKnownRow, standIns := [], harness := (true, "d2441526f012590f4660c831e3bf5576cf82f5143997cc7faa6af9272b702ac4"), looks := true }, kinds := [], alts := [], laidByText := true, laidKinds := [.data], laidTests := true, laidLooks := .later }
def RebaseKnownCardSaid : Prop := Claim7.holds Tryz.pinned (.plain (OpenSpec.ofChange rebaseKnownSpec)) rebaseKnownCard

/-- THE SECOND FORM's CARD OF 'quaysidelaw17.RebaseLittle'. -/
def rebaseLittleUptoCard : Claim7 := { stood := { row := rebaseLittleUptoRow, standIns := [], harness := (true, "d2441526f012590f4660c831e3bf5576cf82f5143997cc7faa6af9272b702ac4"), looks := true }, kinds := [], alts := [], laidByText := true, laidKinds := [.data], laidTests := true, laidLooks := .later }
def RebaseLittleUptoCardSaid : Prop := Claim7.holds Tryz.pinned (.plain (OpenSpec.upto rebaseLittleSpec)) rebaseLittleUptoCard

/-- THE SECOND FORM's CARD OF 'quaysidelaw17.RebaseCounts'. -/
def rebaseCountsUptoCard : Claim7 := { stood := { row := rebaseCountsUptoRow, standIns := [], harness := (true, "d2441526f012590f4660c831e3bf5576cf82f5143997cc7faa6af9272b702ac4"), looks := true }, kinds := [], alts := [], laidByText := true, laidKinds := [.data], laidTests := true, laidLooks := .later }
def RebaseCountsUptoCardSaid : Prop := Claim7.holds Tryz.pinned (.plain (OpenSpec.upto rebaseCountsSpec)) rebaseCountsUptoCard

/-- THE SECOND FORM's CARD OF 'quaysidelaw17.RebaseFollows'. -/
def rebaseFollowsUptoCard : Claim7 := { stood := { row := rebaseFollowsUptoRow, standIns := [], harness := (true, "d2441526f012590f4660c831e3bf5576cf82f5143997cc7faa6af9272b702ac4"), looks := true }, kinds := [], alts := [], laidByText := true, laidKinds := [.data], laidTests := true, laidLooks := .later }
def RebaseFollowsUptoCardSaid : Prop := Claim7.holds Tryz.pinned (.plain (OpenSpec.upto rebaseFollowsSpec)) rebaseFollowsUptoCard

/-- THE SECOND FORM's CARD OF 'quaysidelaw17.RebaseSame'. -/
def rebaseSameUptoCard : Claim7 := { stood := { row := rebaseSameUptoRow, standIns := [], harness := (true, "d2441526f012590f4660c831e3bf5576cf82f5143997cc7faa6af9272b702ac4"), looks := true }, kinds := [], alts := [], laidByText := true, laidKinds := [.data], laidTests := true, laidLooks := .later }
def RebaseSameUptoCardSaid : Prop := Claim7.holds Tryz.pinned (.plain (OpenSpec.upto rebaseSameSpec)) rebaseSameUptoCard

/-- THE SECOND FORM's CARD OF 'quaysidelaw17.RebaseKnown'. -/
def rebaseKnownUptoCard : Claim7 := { stood := { row := rebaseKnownUptoRow, standIns := [], harness := (true, "d2441526f012590f4660c831e3bf5576cf82f5143997cc7faa6af9272b702ac4"), looks := true }, kinds := [], alts := [], laidByText := true, laidKinds := [.data], laidTests := true, laidLooks := .later }
def RebaseKnownUptoCardSaid : Prop := Claim7.holds Tryz.pinned (.plain (OpenSpec.upto rebaseKnownSpec)) rebaseKnownUptoCard
end Rows
end Go.Proofs.YtojlbibionhdjaaGreatDoor
