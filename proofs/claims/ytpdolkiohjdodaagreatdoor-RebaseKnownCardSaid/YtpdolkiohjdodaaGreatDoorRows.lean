/-
  NARROWER THAN 'FOR EVERY INPUT', by the rows' own cells (each row's printed sentence says how): RebaseFollows: laid · RebaseKnown: laid.
  DERIVED. THE GIVEN ROWS OF THIS SEAT. 2 by the template 'for every input the law returns true; each argument reads behind the call as it read before'; 0 by the template 'total and deterministic' (their statements: YtpdolkiohjdodaaGreatDoorTotals.lean).
  GIVEN WITH THE SEED: the statements are not yours to turn. If you find one false, say at which input.
  Laid BY PROGRAM, IN A SANDBOX (cutbox-rows.mjs): the forced cells as the released guide's own fill.sh prints them over the translation 9cbdd14a42b6ab4b… (all of the seat's roots in one cut). By AI agents, Wed Nov 11 2026. No macro, syntax, notation, axiom, sorry.
-/
import Derived.Test.YtpdolkiohjdodaaGreatDoorChecked
import GoSem.Claim
import GoSem.ClaimJoined
import GoSem.ClaimMapViews
import Derived.JoinedTies
import Derived.KernelRfl
namespace Go.Proofs.YtpdolkiohjdodaaGreatDoor
/- THE CELL 'sum', in the pinned program and in every row, IS THE sha256 OF THE DUMP (.gsa) THAT YtpdolkiohjdodaaGreatDoorProg.lean LOADS. Nothing in Lean hashes anything: it is a label: what it is worth is what the hold of that sum in a sandbox is worth. -/
noncomputable def Tryz.pinned : Pinned := { name := "ytpdolkiohjdodaagreatdoor", sum := "9cbdd14a42b6ab4bd155b5ee39dc7a48868fc0064a6f0c98fe61dbe60e42495e", checked := Tryz.checked }
namespace Rows
def none {H : Type} : Left H := { results := [], args := [] }

/- WHAT THE LISTED PACKAGE-LEVEL VARIABLES READ AS WHEN THE CALL BEGINS. Each datum BY PROGRAM (the guide's laid-datum.mjs) off the statement by which the dump's own 'gosem.cut.vars' lays the variable. In a bare row this is a premise. The card (YtpdolkiohjdodaaGreatDoorCards.lean) ties it to the program's text. -/
def laid_quayside_schema_kinds {H : Type} : DataW H := .agg [.lit (.int .i64 0), .lit (.int .i64 1), .lit (.int .i64 2), .lit (.int .i64 3), .lit (.int .i64 3), .lit (.int .i64 4)]

/-- 'quaysidelaw17.RebaseFollows': WHATEVER THE INPUT: true; the input reads as it did. -/
def rebaseFollowsSpec : ChangeSpec := { name := "rebaseFollows", fn := fun _ => fun
  | [d1, d2, d3, d4, d5] => { results := [.lit (.bool true)], args := [d1, d2, d3, d4, d5] }
  | _ => none }
def rebaseFollowsRow : OpenClaim := { program := "ytpdolkiohjdodaagreatdoor", sum := "9cbdd14a42b6ab4bd155b5ee39dc7a48868fc0064a6f0c98fe61dbe60e42495e", func := "quayside/quaysidelaw17.RebaseFollows", spec := "rebaseFollows", inPlace := ["slices.overlaps[int]", "maps.clone"], unfollowed := true, recurses := true, named := ["quayside/schema.kinds"], plainKeys := false, apart := false, laid := [("quayside/schema.kinds", laid_quayside_schema_kinds)] }
def RebaseFollowsSaid : Prop := rebaseFollowsRow.holds Tryz.pinned (OpenSpec.ofChange rebaseFollowsSpec)

/-- ITS FALSE NEIGHBOUR: 'it returns false'. Refute it at one input. -/
def rebaseFollowsWrong : ChangeSpec := { name := "rebaseFollows", fn := fun _ => fun
  | [d1, d2, d3, d4, d5] => { results := [.lit (.bool false)], args := [d1, d2, d3, d4, d5] }
  | _ => none }
def RebaseFollowsWrongFalsely : Prop := rebaseFollowsRow.holds Tryz.pinned (OpenSpec.ofChange rebaseFollowsWrong)

/-- 'quaysidelaw17.RebaseKnown': WHATEVER THE INPUT: true; the input reads as it did. -/
def rebaseKnownSpec : ChangeSpec := { name := "rebaseKnown", fn := fun _ => fun
  | [] => { results := [.lit (.bool true)], args := [] }
  | _ => none }
def rebaseKnownRow : OpenClaim := { program := "ytpdolkiohjdodaagreatdoor", sum := "9cbdd14a42b6ab4bd155b5ee39dc7a48868fc0064a6f0c98fe61dbe60e42495e", func := "quayside/quaysidelaw17.RebaseKnown", spec := "rebaseKnown", inPlace := ["slices.overlaps[int]", "maps.clone"], unfollowed := true, recurses := true, named := ["quayside/schema.kinds"], plainKeys := false, apart := false, laid := [("quayside/schema.kinds", laid_quayside_schema_kinds)] }
def RebaseKnownSaid : Prop := rebaseKnownRow.holds Tryz.pinned (OpenSpec.ofChange rebaseKnownSpec)

/-- ITS FALSE NEIGHBOUR: 'it returns false'. Refute it at one input. -/
def rebaseKnownWrong : ChangeSpec := { name := "rebaseKnown", fn := fun _ => fun
  | [] => { results := [.lit (.bool false)], args := [] }
  | _ => none }
def RebaseKnownWrongFalsely : Prop := rebaseKnownRow.holds Tryz.pinned (OpenSpec.ofChange rebaseKnownWrong)

/- THE SECOND FORM. 'bulk': how many values and letters a reading holds, each counted each time it is reached (what is shared counts as often as it is met; a slice's spare places count too). A statement '..UptoSaid' is the law's where the arguments, and the package variables that the reading takes, are together of bulk at most 1048576: NARROWER than '..Said'. Prove '..Said' where nothing that the law and all that it calls make is longer than what came in: it says more and counts as full. Else prove '..UptoSaid'. A law counts once. -/
mutual
def uptoBulk {H : Type} : DataW H → Nat
  | .lit (.string bytes) => bytes.length + 1
  | .lit _ => 1
  | .nil => 1
  | .ptr d => uptoBulk d + 1
  | .slice elems spare => uptoBulkAll elems + uptoBulkAll spare + 1
  | .agg parts => uptoBulkAll parts + 1
  | .iface _ d => uptoBulk d + 1
  | .map entries => uptoBulkEntries entries + 1
  | .held _ => 1
def uptoBulkAll {H : Type} : List (DataW H) → Nat
  | [] => 0
  | d :: r => uptoBulk d + uptoBulkAll r
def uptoBulkEntries {H : Type} : List (Lit × DataW H) → Nat
  | [] => 0
  | x :: r => uptoBulkEntry x + uptoBulkEntries r
def uptoBulkEntry {H : Type} : Lit × DataW H → Nat
  | (.string bytes, d) => bytes.length + uptoBulk d + 1
  | (_, d) => uptoBulk d + 1
 end
def uptoSmall : (H : Type) → List (DataW H) → Bool := fun _ ds => decide (uptoBulkAll ds ≤ 1048576)
def OpenSpec.upto (s : _root_.Go.ChangeSpec) : _root_.Go.OpenSpec := { _root_.Go.OpenSpec.ofChange s with cond := some uptoSmall }

/-- 'quaysidelaw17.RebaseFollows', WHERE WHAT IT READS IS OF BULK AT MOST 1048576: true; the input reads as it did. -/
def rebaseFollowsUptoRow : OpenClaim := { program := "ytpdolkiohjdodaagreatdoor", sum := "9cbdd14a42b6ab4bd155b5ee39dc7a48868fc0064a6f0c98fe61dbe60e42495e", func := "quayside/quaysidelaw17.RebaseFollows", spec := "rebaseFollows", inPlace := ["slices.overlaps[int]", "maps.clone"], unfollowed := true, recurses := true, named := ["quayside/schema.kinds"], plainKeys := false, apart := false, laid := [("quayside/schema.kinds", laid_quayside_schema_kinds)], narrowed := true }
def RebaseFollowsUptoSaid : Prop := rebaseFollowsUptoRow.holds Tryz.pinned (OpenSpec.upto rebaseFollowsSpec)

/-- 'quaysidelaw17.RebaseKnown', WHERE WHAT IT READS IS OF BULK AT MOST 1048576: true; the input reads as it did. -/
def rebaseKnownUptoRow : OpenClaim := { program := "ytpdolkiohjdodaagreatdoor", sum := "9cbdd14a42b6ab4bd155b5ee39dc7a48868fc0064a6f0c98fe61dbe60e42495e", func := "quayside/quaysidelaw17.RebaseKnown", spec := "rebaseKnown", inPlace := ["slices.overlaps[int]", "maps.clone"], unfollowed := true, recurses := true, named := ["quayside/schema.kinds"], plainKeys := false, apart := false, laid := [("quayside/schema.kinds", laid_quayside_schema_kinds)], narrowed := true }
def RebaseKnownUptoSaid : Prop := rebaseKnownUptoRow.holds Tryz.pinned (OpenSpec.upto rebaseKnownSpec)

end Rows
end Go.Proofs.YtpdolkiohjdodaaGreatDoor
