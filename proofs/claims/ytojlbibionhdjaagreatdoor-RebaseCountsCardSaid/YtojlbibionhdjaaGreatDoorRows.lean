/-
  NARROWER THAN 'FOR EVERY INPUT', by the rows' own cells (each row's printed sentence says how): RebaseLittle: laid · RebaseCounts: laid · RebaseFollows: laid · RebaseSame: laid · RebaseKnown: laid.
  DERIVED. THE GIVEN ROWS OF THIS SEAT. 5 by the template 'for every input the law returns true; each argument reads behind the call as it read before'; 0 by the template 'total and deterministic' (their statements: YtojlbibionhdjaaGreatDoorTotals.lean).
  GIVEN WITH THE SEED: the statements are not yours to turn. If you find one false, say at which input.
  Laid BY PROGRAM, IN A SANDBOX (cutbox-rows.mjs): the forced cells as the released guide's own fill.sh prints them over the translation f7c2ac5a36b1e778… (all of the seat's roots in one cut). By AI agents, Wed Nov 11 2026. No macro, syntax, notation, axiom, sorry.
-/
import Derived.Test.YtojlbibionhdjaaGreatDoorChecked
import GoSem.Claim
import GoSem.ClaimJoined
import GoSem.ClaimMapViews
import Derived.JoinedTies
import Derived.KernelRfl
namespace Go.Proofs.YtojlbibionhdjaaGreatDoor
/- THE CELL 'sum', in the pinned program and in every row, IS THE sha256 OF THE DUMP (.gsa) THAT YtojlbibionhdjaaGreatDoorProg.lean LOADS. Nothing in Lean hashes anything: it is a label: what it is worth is what the hold of that sum in a sandbox is worth. -/
noncomputable def Tryz.pinned : Pinned := { name := "ytojlbibionhdjaagreatdoor", sum := "f7c2ac5a36b1e778052828579a0318708245b25216d944c1790f90b476331b98", checked := Tryz.checked }
namespace Rows
def none {H : Type} : Left H := { results := [], args := [] }

/- WHAT THE LISTED PACKAGE-LEVEL VARIABLES READ AS WHEN THE CALL BEGINS. Each datum BY PROGRAM (the guide's laid-datum.mjs) off the statement by which the dump's own 'gosem.cut.vars' lays the variable. In a bare row this is a premise. The card (YtojlbibionhdjaaGreatDoorCards.lean) ties it to the program's text. -/
def laid_quayside_schema_kinds {H : Type} : DataW H := .agg [.lit (.int .i64 0), .lit (.int .i64 1), .lit (.int .i64 2), .lit (.int .i64 3), .lit (.int .i64 3), .lit (.int .i64 4)]

/-- 'quaysidelaw17.RebaseLittle': WHATEVER THE INPUT: true; the input reads as it did. -/
def rebaseLittleSpec : ChangeSpec := { name := "rebaseLittle", fn := fun _ => fun
  | [d1, d2, d3, d4, d5, d6] => { results := [.lit (.bool true)], args := [d1, d2, d3, d4, d5, d6] }
  | _ => none }
def rebaseLittleRow : OpenClaim := { program := "ytojlbibionhdjaagreatdoor", sum := "f7c2ac5a36b1e778052828579a0318708245b25216d944c1790f90b476331b98", func := "quayside/quaysidelaw17.RebaseLittle", spec := "rebaseLittle", inPlace := ["slices.overlaps[int]", "maps.clone"], unfollowed := true, recurses := true, named := ["quayside/schema.kinds"], plainKeys := false, apart := false, laid := [("quayside/schema.kinds", laid_quayside_schema_kinds)] }
def RebaseLittleSaid : Prop := rebaseLittleRow.holds Tryz.pinned (OpenSpec.ofChange rebaseLittleSpec)

/-- ITS FALSE NEIGHBOUR: 'it returns false'. Refute it at one input. -/
def rebaseLittleWrong : ChangeSpec := { name := "rebaseLittle", fn := fun _ => fun
  | [d1, d2, d3, d4, d5, d6] => { results := [.lit (.bool false)], args := [d1, d2, d3, d4, d5, d6] }
  | _ => none }
def RebaseLittleWrongFalsely : Prop := rebaseLittleRow.holds Tryz.pinned (OpenSpec.ofChange rebaseLittleWrong)

/-- 'quaysidelaw17.RebaseCounts': WHATEVER THE INPUT: true; the input reads as it did. -/
def rebaseCountsSpec : ChangeSpec := { name := "rebaseCounts", fn := fun _ => fun
  | [d1, d2, d3, d4, d5] => { results := [.lit (.bool true)], args := [d1, d2, d3, d4, d5] }
  | _ => none }
def rebaseCountsRow : OpenClaim := { program := "ytojlbibionhdjaagreatdoor", sum := "f7c2ac5a36b1e778052828579a0318708245b25216d944c1790f90b476331b98", func := "quayside/quaysidelaw17.RebaseCounts", spec := "rebaseCounts", inPlace := ["slices.overlaps[int]", "maps.clone"], unfollowed := true, recurses := true, named := ["quayside/schema.kinds"], plainKeys := false, apart := false, laid := [("quayside/schema.kinds", laid_quayside_schema_kinds)] }
def RebaseCountsSaid : Prop := rebaseCountsRow.holds Tryz.pinned (OpenSpec.ofChange rebaseCountsSpec)

/-- ITS FALSE NEIGHBOUR: 'it returns false'. Refute it at one input. -/
def rebaseCountsWrong : ChangeSpec := { name := "rebaseCounts", fn := fun _ => fun
  | [d1, d2, d3, d4, d5] => { results := [.lit (.bool false)], args := [d1, d2, d3, d4, d5] }
  | _ => none }
def RebaseCountsWrongFalsely : Prop := rebaseCountsRow.holds Tryz.pinned (OpenSpec.ofChange rebaseCountsWrong)

/-- 'quaysidelaw17.RebaseFollows': WHATEVER THE INPUT: true; the input reads as it did. -/
def rebaseFollowsSpec : ChangeSpec := { name := "rebaseFollows", fn := fun _ => fun
  | [d1, d2, d3, d4, d5] => { results := [.lit (.bool true)], args := [d1, d2, d3, d4, d5] }
  | _ => none }
def rebaseFollowsRow : OpenClaim := { program := "ytojlbibionhdjaagreatdoor", sum := "f7c2ac5a36b1e778052828579a0318708245b25216d944c1790f90b476331b98", func := "quayside/quaysidelaw17.RebaseFollows", spec := "rebaseFollows", inPlace := ["slices.overlaps[int]", "maps.clone"], unfollowed := true, recurses := true, named := ["quayside/schema.kinds"], plainKeys := false, apart := false, laid := [("quayside/schema.kinds", laid_quayside_schema_kinds)] }
def RebaseFollowsSaid : Prop := rebaseFollowsRow.holds Tryz.pinned (OpenSpec.ofChange rebaseFollowsSpec)

/-- ITS FALSE NEIGHBOUR: 'it returns false'. Refute it at one input. -/
def rebaseFollowsWrong : ChangeSpec := { name := "rebaseFollows", fn := fun _ => fun
  | [d1, d2, d3, d4, d5] => { results := [.lit (.bool false)], args := [d1, d2, d3, d4, d5] }
  | _ => none }
def RebaseFollowsWrongFalsely : Prop := rebaseFollowsRow.holds Tryz.pinned (OpenSpec.ofChange rebaseFollowsWrong)

/-- 'quaysidelaw17.RebaseSame': WHATEVER THE INPUT: true; the input reads as it did. -/
def rebaseSameSpec : ChangeSpec := { name := "rebaseSame", fn := fun _ => fun
  | [d1, d2, d3, d4, d5] => { results := [.lit (.bool true)], args := [d1, d2, d3, d4, d5] }
  | _ => none }
def rebaseSameRow : OpenClaim := { program := "ytojlbibionhdjaagreatdoor", sum := "f7c2ac5a36b1e778052828579a0318708245b25216d944c1790f90b476331b98", func := "quayside/quaysidelaw17.RebaseSame", spec := "rebaseSame", inPlace := ["slices.overlaps[int]", "maps.clone"], unfollowed := true, recurses := true, named := ["quayside/schema.kinds"], plainKeys := false, apart := false, laid := [("quayside/schema.kinds", laid_quayside_schema_kinds)] }
def RebaseSameSaid : Prop := rebaseSameRow.holds Tryz.pinned (OpenSpec.ofChange rebaseSameSpec)

/-- ITS FALSE NEIGHBOUR: 'it returns false'. Refute it at one input. -/
def rebaseSameWrong : ChangeSpec := { name := "rebaseSame", fn := fun _ => fun
  | [d1, d2, d3, d4, d5] => { results := [.lit (.bool false)], args := [d1, d2, d3, d4, d5] }
  | _ => none }
def RebaseSameWrongFalsely : Prop := rebaseSameRow.holds Tryz.pinned (OpenSpec.ofChange rebaseSameWrong)

/-- 'quaysidelaw17.RebaseKnown': WHATEVER THE INPUT: true; the input reads as it did. -/
def rebaseKnownSpec : ChangeSpec := { name := "rebaseKnown", fn := fun _ => fun
  | [] => { results := [.lit (.bool true)], args := [] }
  | _ => none }
def rebaseKnownRow : OpenClaim := { program := "ytojlbibionhdjaagreatdoor", sum := "f7c2ac5a36b1e778052828579a0318708245b25216d944c1790f90b476331b98", func := "quayside/quaysidelaw17.RebaseKnown", spec := "rebaseKnown", inPlace := ["slices.overlaps[int]", "maps.clone"], unfollowed := true, recurses := true, named := ["quayside/schema.kinds"], plainKeys := false, apart := false, laid := [("quayside/schema.kinds", laid_quayside_schema_kinds)] }
def RebaseKnownSaid : Prop := rebaseKnownRow.holds Tryz.pinned (OpenSpec.ofChange rebaseKnownSpec)

/-- ITS FALSE NEIGHBOUR: 'it returns false'. Refute it at one input. -/
def rebaseKnownWrong : ChangeSpec := { name := "rebaseKnown", fn := fun _ => fun
  | [] => { results := [.lit (.bool false)], args := [] }
  | _ => none }
def RebaseKnownWrongFalsely : Prop := rebaseKnownRow.holds Tryz.pinned (OpenSpec.ofChange rebaseKnownWrong)

/- THE SECOND FORM. 'bulk': how many values and letters a reading holds, each counted each time it is reached (what is shared counts as often as it is met; a slice's spare places count too). A statement '..UptoSaid' is the law's where the arguments, and the package variables that the reading takes, are together of bulk at most 1048576: NARROWER than '..Said'. Prove '..Said' where nothing that the law and all that it calls make is longer than what came in: it says more and counts as full. Else prove '..UptoSaid'. A law counts once. -/
mutual
def uptoBulk {H : Type} : DataW H → Nat
  | .lit (.string bytes) => bytes.length + 1
  | .lit _ => 1
  | .nil => 1
  | .ptr d => uptoBulk d + 1
  | .slice elems spare => uptoBulkAll elems + uptoBulkAll spare + 1
  | .agg parts => uptoBulkAll parts + 1
  | .iface _ d => uptoBulk d + 1
  | .map entries => uptoBulkEntries entries + 1
  | .held _ => 1
def uptoBulkAll {H : Type} : List (DataW H) → Nat
  | [] => 0
  | d :: r => uptoBulk d + uptoBulkAll r
def uptoBulkEntries {H : Type} : List (Lit × DataW H) → Nat
  | [] => 0
  | x :: r => uptoBulkEntry x + uptoBulkEntries r
def uptoBulkEntry {H : Type} : Lit × DataW H → Nat
  | (.string bytes, d) => bytes.length + uptoBulk d + 1
  | (_, d) => uptoBulk d + 1
 end
def uptoSmall : (H : Type) → List (DataW H) → Bool := fun _ ds => decide (uptoBulkAll ds ≤ 1048576)
def OpenSpec.upto (s : _root_.Go.ChangeSpec) : _root_.Go.OpenSpec := { _root_.Go.OpenSpec.ofChange s with cond := some uptoSmall }

/-- 'quaysidelaw17.RebaseLittle', WHERE WHAT IT READS IS OF BULK AT MOST 1048576: true; the input reads as it did. -/
def rebaseLittleUptoRow : OpenClaim := { program := "ytojlbibionhdjaagreatdoor", sum := "f7c2ac5a36b1e778052828579a0318708245b25216d944c1790f90b476331b98", func := "quayside/quaysidelaw17.RebaseLittle", spec := "rebaseLittle", inPlace := ["slices.overlaps[int]", "maps.clone"], unfollowed := true, recurses := true, named := ["quayside/schema.kinds"], plainKeys := false, apart := false, laid := [("quayside/schema.kinds", laid_quayside_schema_kinds)], narrowed := true }
def RebaseLittleUptoSaid : Prop := rebaseLittleUptoRow.holds Tryz.pinned (OpenSpec.upto rebaseLittleSpec)

/-- 'quaysidelaw17.RebaseCounts', WHERE WHAT IT READS IS OF BULK AT MOST 1048576: true; the input reads as it did. -/
def rebaseCountsUptoRow : OpenClaim := { program := "ytojlbibionhdjaagreatdoor", sum := "f7c2ac5a36b1e778052828579a0318708245b25216d944c1790f90b476331b98", func := "quayside/quaysidelaw17.RebaseCounts", spec := "rebaseCounts", inPlace := ["slices.overlaps[int]", "maps.clone"], unfollowed := true, recurses := true, named := ["quayside/schema.kinds"], plainKeys := false, apart := false, laid := [("quayside/schema.kinds", laid_quayside_schema_kinds)], narrowed := true }
def RebaseCountsUptoSaid : Prop := rebaseCountsUptoRow.holds Tryz.pinned (OpenSpec.upto rebaseCountsSpec)

/-- 'quaysidelaw17.RebaseFollows', WHERE WHAT IT READS IS OF BULK AT MOST 1048576: true; the input reads as it did. -/
def rebaseFollowsUptoRow : OpenClaim := { program := "ytojlbibionhdjaagreatdoor", sum := "f7c2ac5a36b1e778052828579a0318708245b25216d944c1790f90b476331b98", func := "quayside/quaysidelaw17.RebaseFollows", spec := "rebaseFollows", inPlace := ["slices.overlaps[int]", "maps.clone"], unfollowed := true, recurses := true, named := ["quayside/schema.kinds"], plainKeys := false, apart := false, laid := [("quayside/schema.kinds", laid_quayside_schema_kinds)], narrowed := true }
def RebaseFollowsUptoSaid : Prop := rebaseFollowsUptoRow.holds Tryz.pinned (OpenSpec.upto rebaseFollowsSpec)

/-- 'quaysidelaw17.RebaseSame', WHERE WHAT IT READS IS OF BULK AT MOST 1048576: true; the input reads as it did. -/
def rebaseSameUptoRow : OpenClaim := { program := "ytojlbibionhdjaagreatdoor", sum := "f7c2ac5a36b1e778052828579a0318708245b25216d944c1790f90b476331b98", func := "quayside/quaysidelaw17.RebaseSame", spec := "rebaseSame", inPlace := ["slices.overlaps[int]", "maps.clone"], unfollowed := true, recurses := true, named := ["quayside/schema.kinds"], plainKeys := false, apart := false, laid := [("quayside/schema.kinds", laid_quayside_schema_kinds)], narrowed := true }
def RebaseSameUptoSaid : Prop := rebaseSameUptoRow.holds Tryz.pinned (OpenSpec.upto rebaseSameSpec)

/-- 'quaysidelaw17.RebaseKnown', WHERE WHAT IT READS IS OF BULK AT MOST 1048576: true; the input reads as it did. -/
def rebaseKnownUptoRow : OpenClaim := { program := "ytojlbibionhdjaagreatdoor", sum := "f7c2ac5a36b1e778052828579a0318708245b25216d944c1790f90b476331b98", func := "quayside/quaysidelaw17.RebaseKnown", spec := "rebaseKnown", inPlace := ["slices.overlaps[int]", "maps.clone"], unfollowed := true, recurses := true, named := ["quayside/schema.kinds"], plainKeys := false, apart := false, laid := [("quayside/schema.kinds", laid_quayside_schema_kinds)], narrowed := true }
def RebaseKnownUptoSaid : Prop := rebaseKnownUptoRow.holds Tryz.pinned (OpenSpec.upto rebaseKnownSpec)

end Rows
end Go.Proofs.YtojlbibionhdjaaGreatDoor
