/-
  NARROWER THAN 'FOR EVERY INPUT', by the rows' own cells (each row's printed sentence says how): ValidDone: laid · ValidNumbers: laid · ValidExpects: laid.
  DERIVED. THE GIVEN ROWS OF THIS SEAT. 3 by the template 'for every input the law returns true; each argument reads behind the call as it read before'; 0 by the template 'total and deterministic' (their statements: YtbbabhaalmkbkaaGreatDoorTotals.lean).
  GIVEN WITH THE SEED: the statements are not yours to turn. If you find one false, say at which input.
  Laid BY PROGRAM, IN A SANDBOX (cutbox-rows.mjs): the forced cells as the released guide's own fill.sh prints them over the translation 1295fd097e9fd757… (all of the seat's roots in one cut). By AI agents, Wed Nov 11 2026. No macro, syntax, notation, axiom, sorry.
-/
import Derived.Test.YtbbabhaalmkbkaaGreatDoorChecked
import GoSem.Claim
import GoSem.ClaimJoined
import GoSem.ClaimMapViews
import Derived.JoinedTies
import Derived.KernelRfl
namespace Go.Proofs.YtbbabhaalmkbkaaGreatDoor
/- THE CELL 'sum', in the pinned program and in every row, IS THE sha256 OF THE DUMP (.gsa) THAT YtbbabhaalmkbkaaGreatDoorProg.lean LOADS. Nothing in Lean hashes anything: it is a label: what it is worth is what the hold of that sum in a sandbox is worth. -/
noncomputable def Tryz.pinned : Pinned := { name := "ytbbabhaalmkbkaagreatdoor", sum := "1295fd097e9fd757c45e8ebe97a58987e867963ab6d13388b32c3cff212b31dc", checked := Tryz.checked }
namespace Rows
def none {H : Type} : Left H := { results := [], args := [] }

/- WHAT THE LISTED PACKAGE-LEVEL VARIABLES READ AS WHEN THE CALL BEGINS. Each datum BY PROGRAM (the guide's laid-datum.mjs) off the statement by which the dump's own 'gosem.cut.vars' lays the variable. In a bare row this is a premise. The card (YtbbabhaalmkbkaaGreatDoorCards.lean) ties it to the program's text. -/
def laid_quayside_schema_kinds {H : Type} : DataW H := .agg [.lit (.int .i64 0), .lit (.int .i64 1), .lit (.int .i64 2), .lit (.int .i64 3), .lit (.int .i64 3), .lit (.int .i64 4)]

/-- 'quaysidelaw15.ValidDone': WHATEVER THE INPUT: true; the input reads as it did. -/
def validDoneSpec : ChangeSpec := { name := "validDone", fn := fun _ => fun
  | [d1, d2, d3, d4, d5, d6] => { results := [.lit (.bool true)], args := [d1, d2, d3, d4, d5, d6] }
  | _ => none }
def validDoneRow : OpenClaim := { program := "ytbbabhaalmkbkaagreatdoor", sum := "1295fd097e9fd757c45e8ebe97a58987e867963ab6d13388b32c3cff212b31dc", func := "quayside/quaysidelaw15.ValidDone", spec := "validDone", inPlace := ["slices.overlaps[int]"], unfollowed := true, recurses := true, named := ["quayside/schema.kinds"], plainKeys := false, apart := false, laid := [("quayside/schema.kinds", laid_quayside_schema_kinds)] }
def ValidDoneSaid : Prop := validDoneRow.holds Tryz.pinned (OpenSpec.ofChange validDoneSpec)

/-- ITS FALSE NEIGHBOUR: 'it returns false'. Refute it at one input. -/
def validDoneWrong : ChangeSpec := { name := "validDone", fn := fun _ => fun
  | [d1, d2, d3, d4, d5, d6] => { results := [.lit (.bool false)], args := [d1, d2, d3, d4, d5, d6] }
  | _ => none }
def ValidDoneWrongFalsely : Prop := validDoneRow.holds Tryz.pinned (OpenSpec.ofChange validDoneWrong)

/-- 'quaysidelaw15.ValidNumbers': WHATEVER THE INPUT: true; the input reads as it did. -/
def validNumbersSpec : ChangeSpec := { name := "validNumbers", fn := fun _ => fun
  | [d1, d2, d3, d4, d5] => { results := [.lit (.bool true)], args := [d1, d2, d3, d4, d5] }
  | _ => none }
def validNumbersRow : OpenClaim := { program := "ytbbabhaalmkbkaagreatdoor", sum := "1295fd097e9fd757c45e8ebe97a58987e867963ab6d13388b32c3cff212b31dc", func := "quayside/quaysidelaw15.ValidNumbers", spec := "validNumbers", inPlace := ["slices.overlaps[int]"], unfollowed := true, recurses := true, named := ["quayside/schema.kinds"], plainKeys := false, apart := false, laid := [("quayside/schema.kinds", laid_quayside_schema_kinds)] }
def ValidNumbersSaid : Prop := validNumbersRow.holds Tryz.pinned (OpenSpec.ofChange validNumbersSpec)

/-- ITS FALSE NEIGHBOUR: 'it returns false'. Refute it at one input. -/
def validNumbersWrong : ChangeSpec := { name := "validNumbers", fn := fun _ => fun
  | [d1, d2, d3, d4, d5] => { results := [.lit (.bool false)], args := [d1, d2, d3, d4, d5] }
  | _ => none }
def ValidNumbersWrongFalsely : Prop := validNumbersRow.holds Tryz.pinned (OpenSpec.ofChange validNumbersWrong)

/-- 'quaysidelaw15.ValidExpects': WHATEVER THE INPUT: true; the input reads as it did. -/
def validExpectsSpec : ChangeSpec := { name := "validExpects", fn := fun _ => fun
  | [d1, d2, d3, d4, d5] => { results := [.lit (.bool true)], args := [d1, d2, d3, d4, d5] }
  | _ => none }
def validExpectsRow : OpenClaim := { program := "ytbbabhaalmkbkaagreatdoor", sum := "1295fd097e9fd757c45e8ebe97a58987e867963ab6d13388b32c3cff212b31dc", func := "quayside/quaysidelaw15.ValidExpects", spec := "validExpects", inPlace := ["slices.overlaps[int]"], unfollowed := true, recurses := true, named := ["quayside/schema.kinds"], plainKeys := false, apart := false, laid := [("quayside/schema.kinds", laid_quayside_schema_kinds)] }
def ValidExpectsSaid : Prop := validExpectsRow.holds Tryz.pinned (OpenSpec.ofChange validExpectsSpec)

/-- ITS FALSE NEIGHBOUR: 'it returns false'. Refute it at one input. -/
def validExpectsWrong : ChangeSpec := { name := "validExpects", fn := fun _ => fun
  | [d1, d2, d3, d4, d5] => { results := [.lit (.bool false)], args := [d1, d2, d3, d4, d5] }
  | _ => none }
def ValidExpectsWrongFalsely : Prop := validExpectsRow.holds Tryz.pinned (OpenSpec.ofChange validExpectsWrong)

/- THE SECOND FORM. 'bulk': how many values and letters a reading holds, each counted each time it is reached (what is shared counts as often as it is met; a slice's spare places count too). A statement '..UptoSaid' is the law's where the arguments, and the package variables that the reading takes, are together of bulk at most 1048576: NARROWER than '..Said'. Prove '..Said' where nothing that the law and all that it calls make is longer than what came in: it says more and counts as full. Else prove '..UptoSaid'. A law counts once. -/
mutual
def uptoBulk {H : Type} : DataW H → Nat
  | .lit (.string bytes) => bytes.length + 1
  | .lit _ => 1
  | .nil => 1
  | .ptr d => uptoBulk d + 1
  | .slice elems spare => uptoBulkAll elems + uptoBulkAll spare + 1
  | .agg parts => uptoBulkAll parts + 1
  | .iface _ d => uptoBulk d + 1
  | .map entries => uptoBulkEntries entries + 1
  | .held _ => 1
def uptoBulkAll {H : Type} : List (DataW H) → Nat
  | [] => 0
  | d :: r => uptoBulk d + uptoBulkAll r
def uptoBulkEntries {H : Type} : List (Lit × DataW H) → Nat
  | [] => 0
  | x :: r => uptoBulkEntry x + uptoBulkEntries r
def uptoBulkEntry {H : Type} : Lit × DataW H → Nat
  | (.string bytes, d) => bytes.length + uptoBulk d + 1
  | (_, d) => uptoBulk d + 1
 end
def uptoSmall : (H : Type) → List (DataW H) → Bool := fun _ ds => decide (uptoBulkAll ds ≤ 1048576)
def OpenSpec.upto (s : _root_.Go.ChangeSpec) : _root_.Go.OpenSpec := { _root_.Go.OpenSpec.ofChange s with cond := some uptoSmall }

/-- 'quaysidelaw15.ValidDone', WHERE WHAT IT READS IS OF BULK AT MOST 1048576: true; the input reads as it did. -/
def validDoneUptoRow : OpenClaim := { program := "ytbbabhaalmkbkaagreatdoor", sum := "1295fd097e9fd757c45e8ebe97a58987e867963ab6d13388b32c3cff212b31dc", func := "quayside/quaysidelaw15.ValidDone", spec := "validDone", inPlace := ["slices.overlaps[int]"], unfollowed := true, recurses := true, named := ["quayside/schema.kinds"], plainKeys := false, apart := false, laid := [("quayside/schema.kinds", laid_quayside_schema_kinds)], narrowed := true }
def ValidDoneUptoSaid : Prop := validDoneUptoRow.holds Tryz.pinned (OpenSpec.upto validDoneSpec)

/-- 'quaysidelaw15.ValidNumbers', WHERE WHAT IT READS IS OF BULK AT MOST 1048576: true; the input reads as it did. -/
def validNumbersUptoRow : OpenClaim := { program := "ytbbabhaalmkbkaagreatdoor", sum := "1295fd097e9fd757c45e8ebe97a58987e867963ab6d13388b32c3cff212b31dc", func := "quayside/quaysidelaw15.ValidNumbers", spec := "validNumbers", inPlace := ["slices.overlaps[int]"], unfollowed := true, recurses := true, named := ["quayside/schema.kinds"], plainKeys := false, apart := false, laid := [("quayside/schema.kinds", laid_quayside_schema_kinds)], narrowed := true }
def ValidNumbersUptoSaid : Prop := validNumbersUptoRow.holds Tryz.pinned (OpenSpec.upto validNumbersSpec)

/-- 'quaysidelaw15.ValidExpects', WHERE WHAT IT READS IS OF BULK AT MOST 1048576: true; the input reads as it did. -/
def validExpectsUptoRow : OpenClaim := { program := "ytbbabhaalmkbkaagreatdoor", sum := "1295fd097e9fd757c45e8ebe97a58987e867963ab6d13388b32c3cff212b31dc", func := "quayside/quaysidelaw15.ValidExpects", spec := "validExpects", inPlace := ["slices.overlaps[int]"], unfollowed := true, recurses := true, named := ["quayside/schema.kinds"], plainKeys := false, apart := false, laid := [("quayside/schema.kinds", laid_quayside_schema_kinds)], narrowed := true }
def ValidExpectsUptoSaid : Prop := validExpectsUptoRow.holds Tryz.pinned (OpenSpec.upto validExpectsSpec)

end Rows
end Go.Proofs.YtbbabhaalmkbkaaGreatDoor
