/-
  No cell of these rows narrows 'for every input' (looked for: loops, veiled, ifaces, maps, wideKeys, modest, calm, conditions, laid).
  DERIVED. THE GIVEN ROWS OF THIS SEAT. 5 by the template 'for every input the law returns true; each argument reads behind the call as it read before'; 0 by the template 'total and deterministic' (their statements: YtmiihhbeclhaoaaTotals.lean).
  GIVEN WITH THE SEED: the statements are not yours to turn. If you find one false, say at which input.
  Laid BY PROGRAM, IN A SANDBOX (cutbox-rows.mjs): the forced cells as the released guide's own fill.sh prints them over the translation 1be8a21979a8dbf8… (all of the seat's roots in one cut). By AI agents, Wed Nov 11 2026. No macro, syntax, notation, axiom, sorry.
-/
import Derived.Test.YtmiihhbeclhaoaaChecked
import GoSem.Claim
import GoSem.ClaimJoined
import GoSem.ClaimMapViews
import Derived.JoinedTies
import Derived.KernelRfl
namespace Go.Proofs.Ytmiihhbeclhaoaa
/- THE CELL 'sum', in the pinned program and in every row, IS THE sha256 OF THE DUMP (.gsa) THAT YtmiihhbeclhaoaaProg.lean LOADS. Nothing in Lean hashes anything: it is a label: what it is worth is what the hold of that sum in a sandbox is worth. -/
noncomputable def Try.pinned : Pinned := { name := "ytmiihhbeclhaoaa", sum := "1be8a21979a8dbf81d591474f2e78635c91b26d67a29c9cf6c174d9094720cd8", checked := Try.checked }
namespace Rows
def none {H : Type} : Left H := { results := [], args := [] }

/-- 'quaysidelaw25.BufferAll': WHATEVER THE INPUT: true; the input reads as it did. -/
def bufferAllSpec : ChangeSpec := { name := "bufferAll", fn := fun _ => fun
  | [d1, d2, d3] => { results := [.lit (.bool true)], args := [d1, d2, d3] }
  | _ => none }
def bufferAllRow : OpenClaim := { program := "ytmiihhbeclhaoaa", sum := "1be8a21979a8dbf81d591474f2e78635c91b26d67a29c9cf6c174d9094720cd8", func := "quayside/quaysidelaw25.BufferAll", spec := "bufferAll", inPlace := ["slices.overlaps[quayside/api.Event]"], unfollowed := true, recurses := true, plainKeys := false, apart := false }
def BufferAllSaid : Prop := bufferAllRow.holds Try.pinned (OpenSpec.ofChange bufferAllSpec)

/-- ITS FALSE NEIGHBOUR: 'it returns false'. Refute it at one input. -/
def bufferAllWrong : ChangeSpec := { name := "bufferAll", fn := fun _ => fun
  | [d1, d2, d3] => { results := [.lit (.bool false)], args := [d1, d2, d3] }
  | _ => none }
def BufferAllWrongFalsely : Prop := bufferAllRow.holds Try.pinned (OpenSpec.ofChange bufferAllWrong)

/-- 'quaysidelaw25.BufferTurned': WHATEVER THE INPUT: true; the input reads as it did. -/
def bufferTurnedSpec : ChangeSpec := { name := "bufferTurned", fn := fun _ => fun
  | [d1, d2, d3] => { results := [.lit (.bool true)], args := [d1, d2, d3] }
  | _ => none }
def bufferTurnedRow : OpenClaim := { program := "ytmiihhbeclhaoaa", sum := "1be8a21979a8dbf81d591474f2e78635c91b26d67a29c9cf6c174d9094720cd8", func := "quayside/quaysidelaw25.BufferTurned", spec := "bufferTurned", inPlace := ["slices.overlaps[quayside/api.Event]"], unfollowed := true, recurses := true, plainKeys := false, apart := false }
def BufferTurnedSaid : Prop := bufferTurnedRow.holds Try.pinned (OpenSpec.ofChange bufferTurnedSpec)

/-- ITS FALSE NEIGHBOUR: 'it returns false'. Refute it at one input. -/
def bufferTurnedWrong : ChangeSpec := { name := "bufferTurned", fn := fun _ => fun
  | [d1, d2, d3] => { results := [.lit (.bool false)], args := [d1, d2, d3] }
  | _ => none }
def BufferTurnedWrongFalsely : Prop := bufferTurnedRow.holds Try.pinned (OpenSpec.ofChange bufferTurnedWrong)

/-- 'quaysidelaw25.BufferPlays': WHATEVER THE INPUT: true; the input reads as it did. -/
def bufferPlaysSpec : ChangeSpec := { name := "bufferPlays", fn := fun _ => fun
  | [d1, d2, d3, d4] => { results := [.lit (.bool true)], args := [d1, d2, d3, d4] }
  | _ => none }
def bufferPlaysRow : OpenClaim := { program := "ytmiihhbeclhaoaa", sum := "1be8a21979a8dbf81d591474f2e78635c91b26d67a29c9cf6c174d9094720cd8", func := "quayside/quaysidelaw25.BufferPlays", spec := "bufferPlays", inPlace := ["slices.overlaps[quayside/api.Event]"], unfollowed := true, recurses := true, plainKeys := false, apart := false }
def BufferPlaysSaid : Prop := bufferPlaysRow.holds Try.pinned (OpenSpec.ofChange bufferPlaysSpec)

/-- ITS FALSE NEIGHBOUR: 'it returns false'. Refute it at one input. -/
def bufferPlaysWrong : ChangeSpec := { name := "bufferPlays", fn := fun _ => fun
  | [d1, d2, d3, d4] => { results := [.lit (.bool false)], args := [d1, d2, d3, d4] }
  | _ => none }
def BufferPlaysWrongFalsely : Prop := bufferPlaysRow.holds Try.pinned (OpenSpec.ofChange bufferPlaysWrong)

/-- 'quaysidelaw25.BufferRoom': WHATEVER THE INPUT: true; the input reads as it did. -/
def bufferRoomSpec : ChangeSpec := { name := "bufferRoom", fn := fun _ => fun
  | [d] => { results := [.lit (.bool true)], args := [d] }
  | _ => none }
def bufferRoomRow : OpenClaim := { program := "ytmiihhbeclhaoaa", sum := "1be8a21979a8dbf81d591474f2e78635c91b26d67a29c9cf6c174d9094720cd8", func := "quayside/quaysidelaw25.BufferRoom", spec := "bufferRoom", inPlace := ["slices.overlaps[quayside/api.Event]"], unfollowed := true, recurses := true, plainKeys := false, apart := false }
def BufferRoomSaid : Prop := bufferRoomRow.holds Try.pinned (OpenSpec.ofChange bufferRoomSpec)

/-- ITS FALSE NEIGHBOUR: 'it returns false'. Refute it at one input. -/
def bufferRoomWrong : ChangeSpec := { name := "bufferRoom", fn := fun _ => fun
  | [d] => { results := [.lit (.bool false)], args := [d] }
  | _ => none }
def BufferRoomWrongFalsely : Prop := bufferRoomRow.holds Try.pinned (OpenSpec.ofChange bufferRoomWrong)

/-- 'quaysidelaw25.BufferKnown': WHATEVER THE INPUT: true; the input reads as it did. -/
def bufferKnownSpec : ChangeSpec := { name := "bufferKnown", fn := fun _ => fun
  | [] => { results := [.lit (.bool true)], args := [] }
  | _ => none }
def bufferKnownRow : OpenClaim := { program := "ytmiihhbeclhaoaa", sum := "1be8a21979a8dbf81d591474f2e78635c91b26d67a29c9cf6c174d9094720cd8", func := "quayside/quaysidelaw25.BufferKnown", spec := "bufferKnown", inPlace := ["slices.overlaps[quayside/api.Event]"], unfollowed := true, recurses := true, plainKeys := false, apart := false }
def BufferKnownSaid : Prop := bufferKnownRow.holds Try.pinned (OpenSpec.ofChange bufferKnownSpec)

/-- ITS FALSE NEIGHBOUR: 'it returns false'. Refute it at one input. -/
def bufferKnownWrong : ChangeSpec := { name := "bufferKnown", fn := fun _ => fun
  | [] => { results := [.lit (.bool false)], args := [] }
  | _ => none }
def BufferKnownWrongFalsely : Prop := bufferKnownRow.holds Try.pinned (OpenSpec.ofChange bufferKnownWrong)

/- THE SECOND FORM. 'bulk': how many values and letters a reading holds, each counted each time it is reached (what is shared counts as often as it is met; a slice's spare places count too). A statement '..UptoSaid' is the law's where the arguments, and the package variables that the reading takes, are together of bulk at most 1048576: NARROWER than '..Said'. Prove '..Said' where nothing that the law and all that it calls make is longer than what came in: it says more and counts as full. Else prove '..UptoSaid'. A law counts once. -/
mutual
def uptoBulk {H : Type} : DataW H → Nat
  | .lit (.string bytes) => bytes.length + 1
  | .lit _ => 1
  | .nil => 1
  | .ptr d => uptoBulk d + 1
  | .slice elems spare => uptoBulkAll elems + uptoBulkAll spare + 1
  | .agg parts => uptoBulkAll parts + 1
  | .iface _ d => uptoBulk d + 1
  | .map entries => uptoBulkEntries entries + 1
  | .held _ => 1
def uptoBulkAll {H : Type} : List (DataW H) → Nat
  | [] => 0
  | d :: r => uptoBulk d + uptoBulkAll r
def uptoBulkEntries {H : Type} : List (Lit × DataW H) → Nat
  | [] => 0
  | x :: r => uptoBulkEntry x + uptoBulkEntries r
def uptoBulkEntry {H : Type} : Lit × DataW H → Nat
  | (.string bytes, d) => bytes.length + uptoBulk d + 1
  | (_, d) => uptoBulk d + 1
 end
def uptoSmall : (H : Type) → List (DataW H) → Bool := fun _ ds => decide (uptoBulkAll ds ≤ 1048576)
def OpenSpec.upto (s : _root_.Go.ChangeSpec) : _root_.Go.OpenSpec := { _root_.Go.OpenSpec.ofChange s with cond := some uptoSmall }

/-- 'quaysidelaw25.BufferAll', WHERE WHAT IT READS IS OF BULK AT MOST 1048576: true; the input reads as it did. -/
def bufferAllUptoRow : OpenClaim := { program := "ytmiihhbeclhaoaa", sum := "1be8a21979a8dbf81d591474f2e78635c91b26d67a29c9cf6c174d9094720cd8", func := "quayside/quaysidelaw25.BufferAll", spec := "bufferAll", inPlace := ["slices.overlaps[quayside/api.Event]"], unfollowed := true, recurses := true, plainKeys := false, apart := false, narrowed := true }
def BufferAllUptoSaid : Prop := bufferAllUptoRow.holds Try.pinned (OpenSpec.upto bufferAllSpec)

/-- 'quaysidelaw25.BufferTurned', WHERE WHAT IT READS IS OF BULK AT MOST 1048576: true; the input reads as it did. -/
def bufferTurnedUptoRow : OpenClaim := { program := "ytmiihhbeclhaoaa", sum := "1be8a21979a8dbf81d591474f2e78635c91b26d67a29c9cf6c174d9094720cd8", func := "quayside/quaysidelaw25.BufferTurned", spec := "bufferTurned", inPlace := ["slices.overlaps[quayside/api.Event]"], unfollowed := true, recurses := true, plainKeys := false, apart := false, narrowed := true }
def BufferTurnedUptoSaid : Prop := bufferTurnedUptoRow.holds Try.pinned (OpenSpec.upto bufferTurnedSpec)

/-- 'quaysidelaw25.BufferPlays', WHERE WHAT IT READS IS OF BULK AT MOST 1048576: true; the input reads as it did. -/
def bufferPlaysUptoRow : OpenClaim := { program := "ytmiihhbeclhaoaa", sum := "1be8a21979a8dbf81d591474f2e78635c91b26d67a29c9cf6c174d9094720cd8", func := "quayside/quaysidelaw25.BufferPlays", spec := "bufferPlays", inPlace := ["slices.overlaps[quayside/api.Event]"], unfollowed := true, recurses := true, plainKeys := false, apart := false, narrowed := true }
def BufferPlaysUptoSaid : Prop := bufferPlaysUptoRow.holds Try.pinned (OpenSpec.upto bufferPlaysSpec)

/-- 'quaysidelaw25.BufferRoom', WHERE WHAT IT READS IS OF BULK AT MOST 1048576: true; the input reads as it did. -/
def bufferRoomUptoRow : OpenClaim := { program := "ytmiihhbeclhaoaa", sum := "1be8a21979a8dbf81d591474f2e78635c91b26d67a29c9cf6c174d9094720cd8", func := "quayside/quaysidelaw25.BufferRoom", spec := "bufferRoom", inPlace := ["slices.overlaps[quayside/api.Event]"], unfollowed := true, recurses := true, plainKeys := false, apart := false, narrowed := true }
def BufferRoomUptoSaid : Prop := bufferRoomUptoRow.holds Try.pinned (OpenSpec.upto bufferRoomSpec)

/-- 'quaysidelaw25.BufferKnown', WHERE WHAT IT READS IS OF BULK AT MOST 1048576: true; the input reads as it did. -/
def bufferKnownUptoRow : OpenClaim := { program := "ytmiihhbeclhaoaa", sum := "1be8a21979a8dbf81d591474f2e78635c91b26d67a29c9cf6c174d9094720cd8", func := "quayside/quaysidelaw25.BufferKnown", spec := "bufferKnown", inPlace := ["slices.overlaps[quayside/api.Event]"], unfollowed := true, recurses := true, plainKeys := false, apart := false, narrowed := true }
def BufferKnownUptoSaid : Prop := bufferKnownUptoRow.holds Try.pinned (OpenSpec.upto bufferKnownSpec)

end Rows
end Go.Proofs.Ytmiihhbeclhaoaa
