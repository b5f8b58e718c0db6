/-
  NARROWER THAN 'FOR EVERY INPUT', by the rows' own cells (each row's printed sentence says how): CellKeeps: laid · FoldAdds: laid · FoldJust: laid · FoldHolds: laid · FoldBegins: laid · FoldKnown: laid · FoldApart: laid · FoldLast: laid.
  DERIVED. THE GIVEN ROWS OF THIS SEAT. 8 by the template 'for every input the law returns true; each argument reads behind the call as it read before'; 0 by the template 'total and deterministic' (their statements: YtlblilbmpdejgaaDoorTotals.lean).
  GIVEN WITH THE SEED: the statements are not yours to turn. If you find one false, say at which input.
  Laid BY PROGRAM, IN A SANDBOX (cutbox-rows.mjs): the forced cells as the released guide's own fill.sh prints them over the translation 0a4e6b3f0a4c685f… (all of the seat's roots in one cut). By AI agents, Wed Nov 11 2026. No macro, syntax, notation, axiom, sorry.
-/
import Derived.Test.YtlblilbmpdejgaaDoorChecked
import GoSem.Claim
import GoSem.ClaimJoined
import GoSem.ClaimMapViews
import Derived.JoinedTies
import Derived.KernelRfl
namespace Go.Proofs.YtlblilbmpdejgaaDoor
/- THE CELL 'sum', in the pinned program and in every row, IS THE sha256 OF THE DUMP (.gsa) THAT YtlblilbmpdejgaaDoorProg.lean LOADS. Nothing in Lean hashes anything: it is a label: what it is worth is what the hold of that sum in a sandbox is worth. -/
noncomputable def Tryd.pinned : Pinned := { name := "ytlblilbmpdejgaadoor", sum := "0a4e6b3f0a4c685fb6d8d2875fa68fdcdeef9639761fbd4f0877c4502ec958e9", checked := Tryd.checked }
namespace Rows
def none {H : Type} : Left H := { results := [], args := [] }

/- WHAT THE LISTED PACKAGE-LEVEL VARIABLES READ AS WHEN THE CALL BEGINS. Each datum BY PROGRAM (the guide's laid-datum.mjs) off the statement by which the dump's own 'gosem.cut.vars' lays the variable. In a bare row this is a premise. The card (YtlblilbmpdejgaaDoorCards.lean) ties it to the program's text. -/
def laid_quayside_schema_kinds {H : Type} : DataW H := .agg [.lit (.int .i64 0), .lit (.int .i64 1), .lit (.int .i64 2), .lit (.int .i64 3), .lit (.int .i64 3), .lit (.int .i64 4)]

/-- 'quaysidelaw11.CellKeeps': WHATEVER THE INPUT: true; the input reads as it did. -/
def cellKeepsSpec : ChangeSpec := { name := "cellKeeps", fn := fun _ => fun
  | [d1, d2, d3, d4] => { results := [.lit (.bool true)], args := [d1, d2, d3, d4] }
  | _ => none }
def cellKeepsRow : OpenClaim := { program := "ytlblilbmpdejgaadoor", sum := "0a4e6b3f0a4c685fb6d8d2875fa68fdcdeef9639761fbd4f0877c4502ec958e9", func := "quayside/quaysidelaw11.CellKeeps", spec := "cellKeeps", inPlace := ["slices.overlaps[int]"], unfollowed := true, recurses := true, named := ["quayside/schema.kinds"], plainKeys := false, apart := false, laid := [("quayside/schema.kinds", laid_quayside_schema_kinds)] }
def CellKeepsSaid : Prop := cellKeepsRow.holds Tryd.pinned (OpenSpec.ofChange cellKeepsSpec)

/-- ITS FALSE NEIGHBOUR: 'it returns false'. Refute it at one input. -/
def cellKeepsWrong : ChangeSpec := { name := "cellKeeps", fn := fun _ => fun
  | [d1, d2, d3, d4] => { results := [.lit (.bool false)], args := [d1, d2, d3, d4] }
  | _ => none }
def CellKeepsWrongFalsely : Prop := cellKeepsRow.holds Tryd.pinned (OpenSpec.ofChange cellKeepsWrong)

/-- 'quaysidelaw13.FoldAdds': WHATEVER THE INPUT: true; the input reads as it did. -/
def foldAddsSpec : ChangeSpec := { name := "foldAdds", fn := fun _ => fun
  | [d1, d2, d3] => { results := [.lit (.bool true)], args := [d1, d2, d3] }
  | _ => none }
def foldAddsRow : OpenClaim := { program := "ytlblilbmpdejgaadoor", sum := "0a4e6b3f0a4c685fb6d8d2875fa68fdcdeef9639761fbd4f0877c4502ec958e9", func := "quayside/quaysidelaw13.FoldAdds", spec := "foldAdds", inPlace := ["slices.overlaps[int]"], unfollowed := true, recurses := true, named := ["quayside/schema.kinds"], plainKeys := false, apart := false, laid := [("quayside/schema.kinds", laid_quayside_schema_kinds)] }
def FoldAddsSaid : Prop := foldAddsRow.holds Tryd.pinned (OpenSpec.ofChange foldAddsSpec)

/-- ITS FALSE NEIGHBOUR: 'it returns false'. Refute it at one input. -/
def foldAddsWrong : ChangeSpec := { name := "foldAdds", fn := fun _ => fun
  | [d1, d2, d3] => { results := [.lit (.bool false)], args := [d1, d2, d3] }
  | _ => none }
def FoldAddsWrongFalsely : Prop := foldAddsRow.holds Tryd.pinned (OpenSpec.ofChange foldAddsWrong)

/-- 'quaysidelaw13.FoldJust': WHATEVER THE INPUT: true; the input reads as it did. -/
def foldJustSpec : ChangeSpec := { name := "foldJust", fn := fun _ => fun
  | [d1, d2, d3] => { results := [.lit (.bool true)], args := [d1, d2, d3] }
  | _ => none }
def foldJustRow : OpenClaim := { program := "ytlblilbmpdejgaadoor", sum := "0a4e6b3f0a4c685fb6d8d2875fa68fdcdeef9639761fbd4f0877c4502ec958e9", func := "quayside/quaysidelaw13.FoldJust", spec := "foldJust", inPlace := ["slices.overlaps[int]"], unfollowed := true, recurses := true, named := ["quayside/schema.kinds"], plainKeys := false, apart := false, laid := [("quayside/schema.kinds", laid_quayside_schema_kinds)] }
def FoldJustSaid : Prop := foldJustRow.holds Tryd.pinned (OpenSpec.ofChange foldJustSpec)

/-- ITS FALSE NEIGHBOUR: 'it returns false'. Refute it at one input. -/
def foldJustWrong : ChangeSpec := { name := "foldJust", fn := fun _ => fun
  | [d1, d2, d3] => { results := [.lit (.bool false)], args := [d1, d2, d3] }
  | _ => none }
def FoldJustWrongFalsely : Prop := foldJustRow.holds Tryd.pinned (OpenSpec.ofChange foldJustWrong)

/-- 'quaysidelaw13.FoldHolds': WHATEVER THE INPUT: true; the input reads as it did. -/
def foldHoldsSpec : ChangeSpec := { name := "foldHolds", fn := fun _ => fun
  | [d1, d2, d3] => { results := [.lit (.bool true)], args := [d1, d2, d3] }
  | _ => none }
def foldHoldsRow : OpenClaim := { program := "ytlblilbmpdejgaadoor", sum := "0a4e6b3f0a4c685fb6d8d2875fa68fdcdeef9639761fbd4f0877c4502ec958e9", func := "quayside/quaysidelaw13.FoldHolds", spec := "foldHolds", inPlace := ["slices.overlaps[int]"], unfollowed := true, recurses := true, named := ["quayside/schema.kinds"], plainKeys := false, apart := false, laid := [("quayside/schema.kinds", laid_quayside_schema_kinds)] }
def FoldHoldsSaid : Prop := foldHoldsRow.holds Tryd.pinned (OpenSpec.ofChange foldHoldsSpec)

/-- ITS FALSE NEIGHBOUR: 'it returns false'. Refute it at one input. -/
def foldHoldsWrong : ChangeSpec := { name := "foldHolds", fn := fun _ => fun
  | [d1, d2, d3] => { results := [.lit (.bool false)], args := [d1, d2, d3] }
  | _ => none }
def FoldHoldsWrongFalsely : Prop := foldHoldsRow.holds Tryd.pinned (OpenSpec.ofChange foldHoldsWrong)

/-- 'quaysidelaw13.FoldBegins': WHATEVER THE INPUT: true; the input reads as it did. -/
def foldBeginsSpec : ChangeSpec := { name := "foldBegins", fn := fun _ => fun
  | [d1, d2, d3, d4, d5, d6] => { results := [.lit (.bool true)], args := [d1, d2, d3, d4, d5, d6] }
  | _ => none }
def foldBeginsRow : OpenClaim := { program := "ytlblilbmpdejgaadoor", sum := "0a4e6b3f0a4c685fb6d8d2875fa68fdcdeef9639761fbd4f0877c4502ec958e9", func := "quayside/quaysidelaw13.FoldBegins", spec := "foldBegins", inPlace := ["slices.overlaps[int]"], unfollowed := true, recurses := true, named := ["quayside/schema.kinds"], plainKeys := false, apart := false, laid := [("quayside/schema.kinds", laid_quayside_schema_kinds)] }
def FoldBeginsSaid : Prop := foldBeginsRow.holds Tryd.pinned (OpenSpec.ofChange foldBeginsSpec)

/-- ITS FALSE NEIGHBOUR: 'it returns false'. Refute it at one input. -/
def foldBeginsWrong : ChangeSpec := { name := "foldBegins", fn := fun _ => fun
  | [d1, d2, d3, d4, d5, d6] => { results := [.lit (.bool false)], args := [d1, d2, d3, d4, d5, d6] }
  | _ => none }
def FoldBeginsWrongFalsely : Prop := foldBeginsRow.holds Tryd.pinned (OpenSpec.ofChange foldBeginsWrong)

/-- 'quaysidelaw13.FoldKnown': WHATEVER THE INPUT: true; the input reads as it did. -/
def foldKnownSpec : ChangeSpec := { name := "foldKnown", fn := fun _ => fun
  | [] => { results := [.lit (.bool true)], args := [] }
  | _ => none }
def foldKnownRow : OpenClaim := { program := "ytlblilbmpdejgaadoor", sum := "0a4e6b3f0a4c685fb6d8d2875fa68fdcdeef9639761fbd4f0877c4502ec958e9", func := "quayside/quaysidelaw13.FoldKnown", spec := "foldKnown", inPlace := ["slices.overlaps[int]"], unfollowed := true, recurses := true, named := ["quayside/schema.kinds"], plainKeys := false, apart := false, laid := [("quayside/schema.kinds", laid_quayside_schema_kinds)] }
def FoldKnownSaid : Prop := foldKnownRow.holds Tryd.pinned (OpenSpec.ofChange foldKnownSpec)

/-- ITS FALSE NEIGHBOUR: 'it returns false'. Refute it at one input. -/
def foldKnownWrong : ChangeSpec := { name := "foldKnown", fn := fun _ => fun
  | [] => { results := [.lit (.bool false)], args := [] }
  | _ => none }
def FoldKnownWrongFalsely : Prop := foldKnownRow.holds Tryd.pinned (OpenSpec.ofChange foldKnownWrong)

/-- 'quaysidelaw13.FoldApart': WHATEVER THE INPUT: true; the input reads as it did. -/
def foldApartSpec : ChangeSpec := { name := "foldApart", fn := fun _ => fun
  | [d1, d2, d3, d4] => { results := [.lit (.bool true)], args := [d1, d2, d3, d4] }
  | _ => none }
def foldApartRow : OpenClaim := { program := "ytlblilbmpdejgaadoor", sum := "0a4e6b3f0a4c685fb6d8d2875fa68fdcdeef9639761fbd4f0877c4502ec958e9", func := "quayside/quaysidelaw13.FoldApart", spec := "foldApart", inPlace := ["slices.overlaps[int]"], unfollowed := true, recurses := true, named := ["quayside/schema.kinds"], plainKeys := false, apart := false, laid := [("quayside/schema.kinds", laid_quayside_schema_kinds)] }
def FoldApartSaid : Prop := foldApartRow.holds Tryd.pinned (OpenSpec.ofChange foldApartSpec)

/-- ITS FALSE NEIGHBOUR: 'it returns false'. Refute it at one input. -/
def foldApartWrong : ChangeSpec := { name := "foldApart", fn := fun _ => fun
  | [d1, d2, d3, d4] => { results := [.lit (.bool false)], args := [d1, d2, d3, d4] }
  | _ => none }
def FoldApartWrongFalsely : Prop := foldApartRow.holds Tryd.pinned (OpenSpec.ofChange foldApartWrong)

/-- 'quaysidelaw13.FoldLast': WHATEVER THE INPUT: true; the input reads as it did. -/
def foldLastSpec : ChangeSpec := { name := "foldLast", fn := fun _ => fun
  | [d1, d2, d3] => { results := [.lit (.bool true)], args := [d1, d2, d3] }
  | _ => none }
def foldLastRow : OpenClaim := { program := "ytlblilbmpdejgaadoor", sum := "0a4e6b3f0a4c685fb6d8d2875fa68fdcdeef9639761fbd4f0877c4502ec958e9", func := "quayside/quaysidelaw13.FoldLast", spec := "foldLast", inPlace := ["slices.overlaps[int]"], unfollowed := true, recurses := true, named := ["quayside/schema.kinds"], plainKeys := false, apart := false, laid := [("quayside/schema.kinds", laid_quayside_schema_kinds)] }
def FoldLastSaid : Prop := foldLastRow.holds Tryd.pinned (OpenSpec.ofChange foldLastSpec)

/-- ITS FALSE NEIGHBOUR: 'it returns false'. Refute it at one input. -/
def foldLastWrong : ChangeSpec := { name := "foldLast", fn := fun _ => fun
  | [d1, d2, d3] => { results := [.lit (.bool false)], args := [d1, d2, d3] }
  | _ => none }
def FoldLastWrongFalsely : Prop := foldLastRow.holds Tryd.pinned (OpenSpec.ofChange foldLastWrong)

/- THE SECOND FORM. 'bulk': how many values and letters a reading holds, each counted each time it is reached (what is shared counts as often as it is met; a slice's spare places count too). A statement '..UptoSaid' is the law's where the arguments, and the package variables that the reading takes, are together of bulk at most 1048576: NARROWER than '..Said'. Prove '..Said' where nothing that the law and all that it calls make is longer than what came in: it says more and counts as full. Else prove '..UptoSaid'. A law counts once. -/
mutual
def uptoBulk {H : Type} : DataW H → Nat
  | .lit (.string bytes) => bytes.length + 1
  | .lit _ => 1
  | .nil => 1
  | .ptr d => uptoBulk d + 1
  | .slice elems spare => uptoBulkAll elems + uptoBulkAll spare + 1
  | .agg parts => uptoBulkAll parts + 1
  | .iface _ d => uptoBulk d + 1
  | .map entries => uptoBulkEntries entries + 1
  | .held _ => 1
def uptoBulkAll {H : Type} : List (DataW H) → Nat
  | [] => 0
  | d :: r => uptoBulk d + uptoBulkAll r
def uptoBulkEntries {H : Type} : List (Lit × DataW H) → Nat
  | [] => 0
  | x :: r => uptoBulkEntry x + uptoBulkEntries r
def uptoBulkEntry {H : Type} : Lit × DataW H → Nat
  | (.string bytes, d) => bytes.length + uptoBulk d + 1
  | (_, d) => uptoBulk d + 1
 end
def uptoSmall : (H : Type) → List (DataW H) → Bool := fun _ ds => decide (uptoBulkAll ds ≤ 1048576)
def OpenSpec.upto (s : _root_.Go.ChangeSpec) : _root_.Go.OpenSpec := { _root_.Go.OpenSpec.ofChange s with cond := some uptoSmall }

/-- 'quaysidelaw11.CellKeeps', WHERE WHAT IT READS IS OF BULK AT MOST 1048576: true; the input reads as it did. -/
def cellKeepsUptoRow : OpenClaim := { program := "ytlblilbmpdejgaadoor", sum := "0a4e6b3f0a4c685fb6d8d2875fa68fdcdeef9639761fbd4f0877c4502ec958e9", func := "quayside/quaysidelaw11.CellKeeps", spec := "cellKeeps", inPlace := ["slices.overlaps[int]"], unfollowed := true, recurses := true, named := ["quayside/schema.kinds"], plainKeys := false, apart := false, laid := [("quayside/schema.kinds", laid_quayside_schema_kinds)], narrowed := true }
def CellKeepsUptoSaid : Prop := cellKeepsUptoRow.holds Tryd.pinned (OpenSpec.upto cellKeepsSpec)

/-- 'quaysidelaw13.FoldAdds', WHERE WHAT IT READS IS OF BULK AT MOST 1048576: true; the input reads as it did. -/
def foldAddsUptoRow : OpenClaim := { program := "ytlblilbmpdejgaadoor", sum := "0a4e6b3f0a4c685fb6d8d2875fa68fdcdeef9639761fbd4f0877c4502ec958e9", func := "quayside/quaysidelaw13.FoldAdds", spec := "foldAdds", inPlace := ["slices.overlaps[int]"], unfollowed := true, recurses := true, named := ["quayside/schema.kinds"], plainKeys := false, apart := false, laid := [("quayside/schema.kinds", laid_quayside_schema_kinds)], narrowed := true }
def FoldAddsUptoSaid : Prop := foldAddsUptoRow.holds Tryd.pinned (OpenSpec.upto foldAddsSpec)

/-- 'quaysidelaw13.FoldJust', WHERE WHAT IT READS IS OF BULK AT MOST 1048576: true; the input reads as it did. -/
def foldJustUptoRow : OpenClaim := { program := "ytlblilbmpdejgaadoor", sum := "0a4e6b3f0a4c685fb6d8d2875fa68fdcdeef9639761fbd4f0877c4502ec958e9", func := "quayside/quaysidelaw13.FoldJust", spec := "foldJust", inPlace := ["slices.overlaps[int]"], unfollowed := true, recurses := true, named := ["quayside/schema.kinds"], plainKeys := false, apart := false, laid := [("quayside/schema.kinds", laid_quayside_schema_kinds)], narrowed := true }
def FoldJustUptoSaid : Prop := foldJustUptoRow.holds Tryd.pinned (OpenSpec.upto foldJustSpec)

/-- 'quaysidelaw13.FoldHolds', WHERE WHAT IT READS IS OF BULK AT MOST 1048576: true; the input reads as it did. -/
def foldHoldsUptoRow : OpenClaim := { program := "ytlblilbmpdejgaadoor", sum := "0a4e6b3f0a4c685fb6d8d2875fa68fdcdeef9639761fbd4f0877c4502ec958e9", func := "quayside/quaysidelaw13.FoldHolds", spec := "foldHolds", inPlace := ["slices.overlaps[int]"], unfollowed := true, recurses := true, named := ["quayside/schema.kinds"], plainKeys := false, apart := false, laid := [("quayside/schema.kinds", laid_quayside_schema_kinds)], narrowed := true }
def FoldHoldsUptoSaid : Prop := foldHoldsUptoRow.holds Tryd.pinned (OpenSpec.upto foldHoldsSpec)

/-- 'quaysidelaw13.FoldBegins', WHERE WHAT IT READS IS OF BULK AT MOST 1048576: true; the input reads as it did. -/
def foldBeginsUptoRow : OpenClaim := { program := "ytlblilbmpdejgaadoor", sum := "0a4e6b3f0a4c685fb6d8d2875fa68fdcdeef9639761fbd4f0877c4502ec958e9", func := "quayside/quaysidelaw13.FoldBegins", spec := "foldBegins", inPlace := ["slices.overlaps[int]"], unfollowed := true, recurses := true, named := ["quayside/schema.kinds"], plainKeys := false, apart := false, laid := [("quayside/schema.kinds", laid_quayside_schema_kinds)], narrowed := true }
def FoldBeginsUptoSaid : Prop := foldBeginsUptoRow.holds Tryd.pinned (OpenSpec.upto foldBeginsSpec)

/-- 'quaysidelaw13.FoldKnown', WHERE WHAT IT READS IS OF BULK AT MOST 1048576: true; the input reads as it did. -/
def foldKnownUptoRow : OpenClaim := { program := "ytlblilbmpdejgaadoor", sum := "0a4e6b3f0a4c685fb6d8d2875fa68fdcdeef9639761fbd4f0877c4502ec958e9", func := "quayside/quaysidelaw13.FoldKnown", spec := "foldKnown", inPlace := ["slices.overlaps[int]"], unfollowed := true, recurses := true, named := ["quayside/schema.kinds"], plainKeys := false, apart := false, laid := [("quayside/schema.kinds", laid_quayside_schema_kinds)], narrowed := true }
def FoldKnownUptoSaid : Prop := foldKnownUptoRow.holds Tryd.pinned (OpenSpec.upto foldKnownSpec)

/-- 'quaysidelaw13.FoldApart', WHERE WHAT IT READS IS OF BULK AT MOST 1048576: true; the input reads as it did. -/
def foldApartUptoRow : OpenClaim := { program := "ytlblilbmpdejgaadoor", sum := "0a4e6b3f0a4c685fb6d8d2875fa68fdcdeef9639761fbd4f0877c4502ec958e9", func := "quayside/quaysidelaw13.FoldApart", spec := "foldApart", inPlace := ["slices.overlaps[int]"], unfollowed := true, recurses := true, named := ["quayside/schema.kinds"], plainKeys := false, apart := false, laid := [("quayside/schema.kinds", laid_quayside_schema_kinds)], narrowed := true }
def FoldApartUptoSaid : Prop := foldApartUptoRow.holds Tryd.pinned (OpenSpec.upto foldApartSpec)

/-- 'quaysidelaw13.FoldLast', WHERE WHAT IT READS IS OF BULK AT MOST 1048576: true; the input reads as it did. -/
def foldLastUptoRow : OpenClaim := { program := "ytlblilbmpdejgaadoor", sum := "0a4e6b3f0a4c685fb6d8d2875fa68fdcdeef9639761fbd4f0877c4502ec958e9", func := "quayside/quaysidelaw13.FoldLast", spec := "foldLast", inPlace := ["slices.overlaps[int]"], unfollowed := true, recurses := true, named := ["quayside/schema.kinds"], plainKeys := false, apart := false, laid := [("quayside/schema.kinds", laid_quayside_schema_kinds)], narrowed := true }
def FoldLastUptoSaid : Prop := foldLastUptoRow.holds Tryd.pinned (OpenSpec.upto foldLastSpec)

end Rows
end Go.Proofs.YtlblilbmpdejgaaDoor
