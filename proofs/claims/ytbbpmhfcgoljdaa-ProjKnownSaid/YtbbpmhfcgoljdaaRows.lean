/-
  No cell of these rows narrows 'for every input' (looked for: loops, veiled, ifaces, maps, wideKeys, modest, calm, conditions, laid).
  DERIVED. THE GIVEN ROWS OF THIS SEAT. 6 by the template 'for every input the law returns true; each argument reads behind the call as it read before'; 0 by the template 'total and deterministic' (their statements: YtbbpmhfcgoljdaaTotals.lean).
  GIVEN WITH THE SEED: the statements are not yours to turn. If you find one false, say at which input.
  Laid BY PROGRAM, IN A SANDBOX (cutbox-rows.mjs): the forced cells as the released guide's own fill.sh prints them over the translation d861287ee96d55c8… (all of the seat's roots in one cut). By AI agents, Wed Nov 11 2026. No macro, syntax, notation, axiom, sorry.
-/
import Derived.Test.YtbbpmhfcgoljdaaChecked
import GoSem.Claim
import GoSem.ClaimJoined
import GoSem.ClaimMapViews
import Derived.JoinedTies
import Derived.KernelRfl
namespace Go.Proofs.Ytbbpmhfcgoljdaa
/- THE CELL 'sum', in the pinned program and in every row, IS THE sha256 OF THE DUMP (.gsa) THAT YtbbpmhfcgoljdaaProg.lean LOADS. Nothing in Lean hashes anything: it is a label: what it is worth is what the hold of that sum in a sandbox is worth. -/
noncomputable def Try.pinned : Pinned := { name := "ytbbpmhfcgoljdaa", sum := "d861287ee96d55c8706dfbdc24aa627b75525dc28add3a12c9bd3880cce8f91a", checked := Try.checked }
namespace Rows
def none {H : Type} : Left H := { results := [], args := [] }

/-- 'quaysidelaw16.ProjMeans': WHATEVER THE INPUT: true; the input reads as it did. -/
def projMeansSpec : ChangeSpec := { name := "projMeans", fn := fun _ => fun
  | [d1, d2, d3] => { results := [.lit (.bool true)], args := [d1, d2, d3] }
  | _ => none }
def projMeansRow : OpenClaim := { program := "ytbbpmhfcgoljdaa", sum := "d861287ee96d55c8706dfbdc24aa627b75525dc28add3a12c9bd3880cce8f91a", func := "quayside/quaysidelaw16.ProjMeans", spec := "projMeans", unfollowed := true, recurses := true, apart := false }
def ProjMeansSaid : Prop := projMeansRow.holds Try.pinned (OpenSpec.ofChange projMeansSpec)

/-- ITS FALSE NEIGHBOUR: 'it returns false'. Refute it at one input. -/
def projMeansWrong : ChangeSpec := { name := "projMeans", fn := fun _ => fun
  | [d1, d2, d3] => { results := [.lit (.bool false)], args := [d1, d2, d3] }
  | _ => none }
def ProjMeansWrongFalsely : Prop := projMeansRow.holds Try.pinned (OpenSpec.ofChange projMeansWrong)

/-- 'quaysidelaw16.ProjTurns': WHATEVER THE INPUT: true; the input reads as it did. -/
def projTurnsSpec : ChangeSpec := { name := "projTurns", fn := fun _ => fun
  | [d1, d2, d3, d4] => { results := [.lit (.bool true)], args := [d1, d2, d3, d4] }
  | _ => none }
def projTurnsRow : OpenClaim := { program := "ytbbpmhfcgoljdaa", sum := "d861287ee96d55c8706dfbdc24aa627b75525dc28add3a12c9bd3880cce8f91a", func := "quayside/quaysidelaw16.ProjTurns", spec := "projTurns", unfollowed := true, recurses := true, apart := false }
def ProjTurnsSaid : Prop := projTurnsRow.holds Try.pinned (OpenSpec.ofChange projTurnsSpec)

/-- ITS FALSE NEIGHBOUR: 'it returns false'. Refute it at one input. -/
def projTurnsWrong : ChangeSpec := { name := "projTurns", fn := fun _ => fun
  | [d1, d2, d3, d4] => { results := [.lit (.bool false)], args := [d1, d2, d3, d4] }
  | _ => none }
def ProjTurnsWrongFalsely : Prop := projTurnsRow.holds Try.pinned (OpenSpec.ofChange projTurnsWrong)

/-- 'quaysidelaw16.ProjVoid': WHATEVER THE INPUT: true; the input reads as it did. -/
def projVoidSpec : ChangeSpec := { name := "projVoid", fn := fun _ => fun
  | [d1, d2, d3] => { results := [.lit (.bool true)], args := [d1, d2, d3] }
  | _ => none }
def projVoidRow : OpenClaim := { program := "ytbbpmhfcgoljdaa", sum := "d861287ee96d55c8706dfbdc24aa627b75525dc28add3a12c9bd3880cce8f91a", func := "quayside/quaysidelaw16.ProjVoid", spec := "projVoid", unfollowed := true, recurses := true, apart := false }
def ProjVoidSaid : Prop := projVoidRow.holds Try.pinned (OpenSpec.ofChange projVoidSpec)

/-- ITS FALSE NEIGHBOUR: 'it returns false'. Refute it at one input. -/
def projVoidWrong : ChangeSpec := { name := "projVoid", fn := fun _ => fun
  | [d1, d2, d3] => { results := [.lit (.bool false)], args := [d1, d2, d3] }
  | _ => none }
def ProjVoidWrongFalsely : Prop := projVoidRow.holds Try.pinned (OpenSpec.ofChange projVoidWrong)

/-- 'quaysidelaw16.ProjJoins': WHATEVER THE INPUT: true; the input reads as it did. -/
def projJoinsSpec : ChangeSpec := { name := "projJoins", fn := fun _ => fun
  | [d1, d2, d3, d4] => { results := [.lit (.bool true)], args := [d1, d2, d3, d4] }
  | _ => none }
def projJoinsRow : OpenClaim := { program := "ytbbpmhfcgoljdaa", sum := "d861287ee96d55c8706dfbdc24aa627b75525dc28add3a12c9bd3880cce8f91a", func := "quayside/quaysidelaw16.ProjJoins", spec := "projJoins", unfollowed := true, recurses := true, apart := false }
def ProjJoinsSaid : Prop := projJoinsRow.holds Try.pinned (OpenSpec.ofChange projJoinsSpec)

/-- ITS FALSE NEIGHBOUR: 'it returns false'. Refute it at one input. -/
def projJoinsWrong : ChangeSpec := { name := "projJoins", fn := fun _ => fun
  | [d1, d2, d3, d4] => { results := [.lit (.bool false)], args := [d1, d2, d3, d4] }
  | _ => none }
def ProjJoinsWrongFalsely : Prop := projJoinsRow.holds Try.pinned (OpenSpec.ofChange projJoinsWrong)

/-- 'quaysidelaw16.ProjRows': WHATEVER THE INPUT: true; the input reads as it did. -/
def projRowsSpec : ChangeSpec := { name := "projRows", fn := fun _ => fun
  | [d1, d2, d3, d4] => { results := [.lit (.bool true)], args := [d1, d2, d3, d4] }
  | _ => none }
def projRowsRow : OpenClaim := { program := "ytbbpmhfcgoljdaa", sum := "d861287ee96d55c8706dfbdc24aa627b75525dc28add3a12c9bd3880cce8f91a", func := "quayside/quaysidelaw16.ProjRows", spec := "projRows", inPlace := ["maps.clone"], unfollowed := true, recurses := true, apart := false }
def ProjRowsSaid : Prop := projRowsRow.holds Try.pinned (OpenSpec.ofChange projRowsSpec)

/-- ITS FALSE NEIGHBOUR: 'it returns false'. Refute it at one input. -/
def projRowsWrong : ChangeSpec := { name := "projRows", fn := fun _ => fun
  | [d1, d2, d3, d4] => { results := [.lit (.bool false)], args := [d1, d2, d3, d4] }
  | _ => none }
def ProjRowsWrongFalsely : Prop := projRowsRow.holds Try.pinned (OpenSpec.ofChange projRowsWrong)

/-- 'quaysidelaw16.ProjKnown': WHATEVER THE INPUT: true; the input reads as it did. -/
def projKnownSpec : ChangeSpec := { name := "projKnown", fn := fun _ => fun
  | [] => { results := [.lit (.bool true)], args := [] }
  | _ => none }
def projKnownRow : OpenClaim := { program := "ytbbpmhfcgoljdaa", sum := "d861287ee96d55c8706dfbdc24aa627b75525dc28add3a12c9bd3880cce8f91a", func := "quayside/quaysidelaw16.ProjKnown", spec := "projKnown", inPlace := ["maps.clone"], unfollowed := true, recurses := true, apart := false }
def ProjKnownSaid : Prop := projKnownRow.holds Try.pinned (OpenSpec.ofChange projKnownSpec)

/-- ITS FALSE NEIGHBOUR: 'it returns false'. Refute it at one input. -/
def projKnownWrong : ChangeSpec := { name := "projKnown", fn := fun _ => fun
  | [] => { results := [.lit (.bool false)], args := [] }
  | _ => none }
def ProjKnownWrongFalsely : Prop := projKnownRow.holds Try.pinned (OpenSpec.ofChange projKnownWrong)

/- THE SECOND FORM. 'bulk': how many values and letters a reading holds, each counted each time it is reached (what is shared counts as often as it is met; a slice's spare places count too). A statement '..UptoSaid' is the law's where the arguments, and the package variables that the reading takes, are together of bulk at most 1048576: NARROWER than '..Said'. Prove '..Said' where nothing that the law and all that it calls make is longer than what came in: it says more and counts as full. Else prove '..UptoSaid'. A law counts once. -/
mutual
def uptoBulk {H : Type} : DataW H → Nat
  | .lit (.string bytes) => bytes.length + 1
  | .lit _ => 1
  | .nil => 1
  | .ptr d => uptoBulk d + 1
  | .slice elems spare => uptoBulkAll elems + uptoBulkAll spare + 1
  | .agg parts => uptoBulkAll parts + 1
  | .iface _ d => uptoBulk d + 1
  | .map entries => uptoBulkEntries entries + 1
  | .held _ => 1
def uptoBulkAll {H : Type} : List (DataW H) → Nat
  | [] => 0
  | d :: r => uptoBulk d + uptoBulkAll r
def uptoBulkEntries {H : Type} : List (Lit × DataW H) → Nat
  | [] => 0
  | x :: r => uptoBulkEntry x + uptoBulkEntries r
def uptoBulkEntry {H : Type} : Lit × DataW H → Nat
  | (.string bytes, d) => bytes.length + uptoBulk d + 1
  | (_, d) => uptoBulk d + 1
 end
def uptoSmall : (H : Type) → List (DataW H) → Bool := fun _ ds => decide (uptoBulkAll ds ≤ 1048576)
def OpenSpec.upto (s : _root_.Go.ChangeSpec) : _root_.Go.OpenSpec := { _root_.Go.OpenSpec.ofChange s with cond := some uptoSmall }

/-- 'quaysidelaw16.ProjMeans', WHERE WHAT IT READS IS OF BULK AT MOST 1048576: true; the input reads as it did. -/
def projMeansUptoRow : OpenClaim := { program := "ytbbpmhfcgoljdaa", sum := "d861287ee96d55c8706dfbdc24aa627b75525dc28add3a12c9bd3880cce8f91a", func := "quayside/quaysidelaw16.ProjMeans", spec := "projMeans", unfollowed := true, recurses := true, apart := false, narrowed := true }
def ProjMeansUptoSaid : Prop := projMeansUptoRow.holds Try.pinned (OpenSpec.upto projMeansSpec)

/-- 'quaysidelaw16.ProjTurns', WHERE WHAT IT READS IS OF BULK AT MOST 1048576: true; the input reads as it did. -/
def projTurnsUptoRow : OpenClaim := { program := "ytbbpmhfcgoljdaa", sum := "d861287ee96d55c8706dfbdc24aa627b75525dc28add3a12c9bd3880cce8f91a", func := "quayside/quaysidelaw16.ProjTurns", spec := "projTurns", unfollowed := true, recurses := true, apart := false, narrowed := true }
def ProjTurnsUptoSaid : Prop := projTurnsUptoRow.holds Try.pinned (OpenSpec.upto projTurnsSpec)

/-- 'quaysidelaw16.ProjVoid', WHERE WHAT IT READS IS OF BULK AT MOST 1048576: true; the input reads as it did. -/
def projVoidUptoRow : OpenClaim := { program := "ytbbpmhfcgoljdaa", sum := "d861287ee96d55c8706dfbdc24aa627b75525dc28add3a12c9bd3880cce8f91a", func := "quayside/quaysidelaw16.ProjVoid", spec := "projVoid", unfollowed := true, recurses := true, apart := false, narrowed := true }
def ProjVoidUptoSaid : Prop := projVoidUptoRow.holds Try.pinned (OpenSpec.upto projVoidSpec)

/-- 'quaysidelaw16.ProjJoins', WHERE WHAT IT READS IS OF BULK AT MOST 1048576: true; the input reads as it did. -/
def projJoinsUptoRow : OpenClaim := { program := "ytbbpmhfcgoljdaa", sum := "d861287ee96d55c8706dfbdc24aa627b75525dc28add3a12c9bd3880cce8f91a", func := "quayside/quaysidelaw16.ProjJoins", spec := "projJoins", unfollowed := true, recurses := true, apart := false, narrowed := true }
def ProjJoinsUptoSaid : Prop := projJoinsUptoRow.holds Try.pinned (OpenSpec.upto projJoinsSpec)

/-- 'quaysidelaw16.ProjRows', WHERE WHAT IT READS IS OF BULK AT MOST 1048576: true; the input reads as it did. -/
def projRowsUptoRow : OpenClaim := { program := "ytbbpmhfcgoljdaa", sum := "d861287ee96d55c8706dfbdc24aa627b75525dc28add3a12c9bd3880cce8f91a", func := "quayside/quaysidelaw16.ProjRows", spec := "projRows", inPlace := ["maps.clone"], unfollowed := true, recurses := true, apart := false, narrowed := true }
def ProjRowsUptoSaid : Prop := projRowsUptoRow.holds Try.pinned (OpenSpec.upto projRowsSpec)

/-- 'quaysidelaw16.ProjKnown', WHERE WHAT IT READS IS OF BULK AT MOST 1048576: true; the input reads as it did. -/
def projKnownUptoRow : OpenClaim := { program := "ytbbpmhfcgoljdaa", sum := "d861287ee96d55c8706dfbdc24aa627b75525dc28add3a12c9bd3880cce8f91a", func := "quayside/quaysidelaw16.ProjKnown", spec := "projKnown", inPlace := ["maps.clone"], unfollowed := true, recurses := true, apart := false, narrowed := true }
def ProjKnownUptoSaid : Prop := projKnownUptoRow.holds Try.pinned (OpenSpec.upto projKnownSpec)

end Rows
end Go.Proofs.Ytbbpmhfcgoljdaa
