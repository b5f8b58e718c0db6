/-
  No cell of these rows narrows 'for every input' (looked for: loops, veiled, ifaces, maps, wideKeys, modest, calm, conditions, laid).
  DERIVED. THE GIVEN ROWS OF THIS SEAT. 6 by the template 'for every input the law returns true; each argument reads behind the call as it read before'; 0 by the template 'total and deterministic' (their statements: YtbbhpddgjiifmaaTotals.lean).
  GIVEN WITH THE SEED: the statements are not yours to turn. If you find one false, say at which input.
  Laid BY PROGRAM, IN A SANDBOX (cutbox-rows.mjs): the forced cells as the released guide's own fill.sh prints them over the translation c30e5bc3cd6f265e… (all of the seat's roots in one cut). By AI agents, Wed Nov 11 2026. No macro, syntax, notation, axiom, sorry.
-/
import Derived.Test.YtbbhpddgjiifmaaChecked
import GoSem.Claim
import GoSem.ClaimJoined
import GoSem.ClaimMapViews
import Derived.JoinedTies
import Derived.KernelRfl
namespace Go.Proofs.Ytbbhpddgjiifmaa
/- THE CELL 'sum', in the pinned program and in every row, IS THE sha256 OF THE DUMP (.gsa) THAT YtbbhpddgjiifmaaProg.lean LOADS. Nothing in Lean hashes anything: it is a label: what it is worth is what the hold of that sum in a sandbox is worth. -/
noncomputable def Try.pinned : Pinned := { name := "ytbbhpddgjiifmaa", sum := "c30e5bc3cd6f265e0049e6335019296981bff4b033831fa2789484444f9f0aaa", checked := Try.checked }
namespace Rows
def none {H : Type} : Left H := { results := [], args := [] }

/-- 'quaysidelaw10.OrderTells': WHATEVER THE INPUT: true; the input reads as it did. -/
def orderTellsSpec : ChangeSpec := { name := "orderTells", fn := fun _ => fun
  | [d] => { results := [.lit (.bool true)], args := [d] }
  | _ => none }
def orderTellsRow : OpenClaim := { program := "ytbbhpddgjiifmaa", sum := "c30e5bc3cd6f265e0049e6335019296981bff4b033831fa2789484444f9f0aaa", func := "quayside/quaysidelaw10.OrderTells", spec := "orderTells", unfollowed := true, recurses := true, apart := false }
def OrderTellsSaid : Prop := orderTellsRow.holds Try.pinned (OpenSpec.ofChange orderTellsSpec)

/-- ITS FALSE NEIGHBOUR: 'it returns false'. Refute it at one input. -/
def orderTellsWrong : ChangeSpec := { name := "orderTells", fn := fun _ => fun
  | [d] => { results := [.lit (.bool false)], args := [d] }
  | _ => none }
def OrderTellsWrongFalsely : Prop := orderTellsRow.holds Try.pinned (OpenSpec.ofChange orderTellsWrong)

/-- 'quaysidelaw10.OrderSorts': WHATEVER THE INPUT: true; the input reads as it did. -/
def orderSortsSpec : ChangeSpec := { name := "orderSorts", fn := fun _ => fun
  | [d1, d2] => { results := [.lit (.bool true)], args := [d1, d2] }
  | _ => none }
def orderSortsRow : OpenClaim := { program := "ytbbhpddgjiifmaa", sum := "c30e5bc3cd6f265e0049e6335019296981bff4b033831fa2789484444f9f0aaa", func := "quayside/quaysidelaw10.OrderSorts", spec := "orderSorts", unfollowed := true, recurses := true, apart := false }
def OrderSortsSaid : Prop := orderSortsRow.holds Try.pinned (OpenSpec.ofChange orderSortsSpec)

/-- ITS FALSE NEIGHBOUR: 'it returns false'. Refute it at one input. -/
def orderSortsWrong : ChangeSpec := { name := "orderSorts", fn := fun _ => fun
  | [d1, d2] => { results := [.lit (.bool false)], args := [d1, d2] }
  | _ => none }
def OrderSortsWrongFalsely : Prop := orderSortsRow.holds Try.pinned (OpenSpec.ofChange orderSortsWrong)

/-- 'quaysidelaw10.OrderLess': WHATEVER THE INPUT: true; the input reads as it did. -/
def orderLessSpec : ChangeSpec := { name := "orderLess", fn := fun _ => fun
  | [d1, d2, d3] => { results := [.lit (.bool true)], args := [d1, d2, d3] }
  | _ => none }
def orderLessRow : OpenClaim := { program := "ytbbhpddgjiifmaa", sum := "c30e5bc3cd6f265e0049e6335019296981bff4b033831fa2789484444f9f0aaa", func := "quayside/quaysidelaw10.OrderLess", spec := "orderLess", unfollowed := true, recurses := true, apart := false }
def OrderLessSaid : Prop := orderLessRow.holds Try.pinned (OpenSpec.ofChange orderLessSpec)

/-- ITS FALSE NEIGHBOUR: 'it returns false'. Refute it at one input. -/
def orderLessWrong : ChangeSpec := { name := "orderLess", fn := fun _ => fun
  | [d1, d2, d3] => { results := [.lit (.bool false)], args := [d1, d2, d3] }
  | _ => none }
def OrderLessWrongFalsely : Prop := orderLessRow.holds Try.pinned (OpenSpec.ofChange orderLessWrong)

/-- 'quaysidelaw10.OrderKnew': WHATEVER THE INPUT: true; the input reads as it did. -/
def orderKnewSpec : ChangeSpec := { name := "orderKnew", fn := fun _ => fun
  | [d1, d2] => { results := [.lit (.bool true)], args := [d1, d2] }
  | _ => none }
def orderKnewRow : OpenClaim := { program := "ytbbhpddgjiifmaa", sum := "c30e5bc3cd6f265e0049e6335019296981bff4b033831fa2789484444f9f0aaa", func := "quayside/quaysidelaw10.OrderKnew", spec := "orderKnew", unfollowed := true, recurses := true, apart := false }
def OrderKnewSaid : Prop := orderKnewRow.holds Try.pinned (OpenSpec.ofChange orderKnewSpec)

/-- ITS FALSE NEIGHBOUR: 'it returns false'. Refute it at one input. -/
def orderKnewWrong : ChangeSpec := { name := "orderKnew", fn := fun _ => fun
  | [d1, d2] => { results := [.lit (.bool false)], args := [d1, d2] }
  | _ => none }
def OrderKnewWrongFalsely : Prop := orderKnewRow.holds Try.pinned (OpenSpec.ofChange orderKnewWrong)

/-- 'quaysidelaw10.OrderKnown': WHATEVER THE INPUT: true; the input reads as it did. -/
def orderKnownSpec : ChangeSpec := { name := "orderKnown", fn := fun _ => fun
  | [] => { results := [.lit (.bool true)], args := [] }
  | _ => none }
def orderKnownRow : OpenClaim := { program := "ytbbhpddgjiifmaa", sum := "c30e5bc3cd6f265e0049e6335019296981bff4b033831fa2789484444f9f0aaa", func := "quayside/quaysidelaw10.OrderKnown", spec := "orderKnown", unfollowed := true, recurses := true, apart := false }
def OrderKnownSaid : Prop := orderKnownRow.holds Try.pinned (OpenSpec.ofChange orderKnownSpec)

/-- ITS FALSE NEIGHBOUR: 'it returns false'. Refute it at one input. -/
def orderKnownWrong : ChangeSpec := { name := "orderKnown", fn := fun _ => fun
  | [] => { results := [.lit (.bool false)], args := [] }
  | _ => none }
def OrderKnownWrongFalsely : Prop := orderKnownRow.holds Try.pinned (OpenSpec.ofChange orderKnownWrong)

/-- 'quaysidelaw10.OrderExtends': WHATEVER THE INPUT: true; the input reads as it did. -/
def orderExtendsSpec : ChangeSpec := { name := "orderExtends", fn := fun _ => fun
  | [d] => { results := [.lit (.bool true)], args := [d] }
  | _ => none }
def orderExtendsRow : OpenClaim := { program := "ytbbhpddgjiifmaa", sum := "c30e5bc3cd6f265e0049e6335019296981bff4b033831fa2789484444f9f0aaa", func := "quayside/quaysidelaw10.OrderExtends", spec := "orderExtends", unfollowed := true, recurses := true, apart := false }
def OrderExtendsSaid : Prop := orderExtendsRow.holds Try.pinned (OpenSpec.ofChange orderExtendsSpec)

/-- ITS FALSE NEIGHBOUR: 'it returns false'. Refute it at one input. -/
def orderExtendsWrong : ChangeSpec := { name := "orderExtends", fn := fun _ => fun
  | [d] => { results := [.lit (.bool false)], args := [d] }
  | _ => none }
def OrderExtendsWrongFalsely : Prop := orderExtendsRow.holds Try.pinned (OpenSpec.ofChange orderExtendsWrong)

/- THE SECOND FORM. 'bulk': how many values and letters a reading holds, each counted each time it is reached (what is shared counts as often as it is met; a slice's spare places count too). A statement '..UptoSaid' is the law's where the arguments, and the package variables that the reading takes, are together of bulk at most 1048576: NARROWER than '..Said'. Prove '..Said' where nothing that the law and all that it calls make is longer than what came in: it says more and counts as full. Else prove '..UptoSaid'. A law counts once. -/
mutual
def uptoBulk {H : Type} : DataW H → Nat
  | .lit (.string bytes) => bytes.length + 1
  | .lit _ => 1
  | .nil => 1
  | .ptr d => uptoBulk d + 1
  | .slice elems spare => uptoBulkAll elems + uptoBulkAll spare + 1
  | .agg parts => uptoBulkAll parts + 1
  | .iface _ d => uptoBulk d + 1
  | .map entries => uptoBulkEntries entries + 1
  | .held _ => 1
def uptoBulkAll {H : Type} : List (DataW H) → Nat
  | [] => 0
  | d :: r => uptoBulk d + uptoBulkAll r
def uptoBulkEntries {H : Type} : List (Lit × DataW H) → Nat
  | [] => 0
  | x :: r => uptoBulkEntry x + uptoBulkEntries r
def uptoBulkEntry {H : Type} : Lit × DataW H → Nat
  | (.string bytes, d) => bytes.length + uptoBulk d + 1
  | (_, d) => uptoBulk d + 1
 end
def uptoSmall : (H : Type) → List (DataW H) → Bool := fun _ ds => decide (uptoBulkAll ds ≤ 1048576)
def OpenSpec.upto (s : _root_.Go.ChangeSpec) : _root_.Go.OpenSpec := { _root_.Go.OpenSpec.ofChange s with cond := some uptoSmall }

/-- 'quaysidelaw10.OrderTells', WHERE WHAT IT READS IS OF BULK AT MOST 1048576: true; the input reads as it did. -/
def orderTellsUptoRow : OpenClaim := { program := "ytbbhpddgjiifmaa", sum := "c30e5bc3cd6f265e0049e6335019296981bff4b033831fa2789484444f9f0aaa", func := "quayside/quaysidelaw10.OrderTells", spec := "orderTells", unfollowed := true, recurses := true, apart := false, narrowed := true }
def OrderTellsUptoSaid : Prop := orderTellsUptoRow.holds Try.pinned (OpenSpec.upto orderTellsSpec)

/-- 'quaysidelaw10.OrderSorts', WHERE WHAT IT READS IS OF BULK AT MOST 1048576: true; the input reads as it did. -/
def orderSortsUptoRow : OpenClaim := { program := "ytbbhpddgjiifmaa", sum := "c30e5bc3cd6f265e0049e6335019296981bff4b033831fa2789484444f9f0aaa", func := "quayside/quaysidelaw10.OrderSorts", spec := "orderSorts", unfollowed := true, recurses := true, apart := false, narrowed := true }
def OrderSortsUptoSaid : Prop := orderSortsUptoRow.holds Try.pinned (OpenSpec.upto orderSortsSpec)

/-- 'quaysidelaw10.OrderLess', WHERE WHAT IT READS IS OF BULK AT MOST 1048576: true; the input reads as it did. -/
def orderLessUptoRow : OpenClaim := { program := "ytbbhpddgjiifmaa", sum := "c30e5bc3cd6f265e0049e6335019296981bff4b033831fa2789484444f9f0aaa", func := "quayside/quaysidelaw10.OrderLess", spec := "orderLess", unfollowed := true, recurses := true, apart := false, narrowed := true }
def OrderLessUptoSaid : Prop := orderLessUptoRow.holds Try.pinned (OpenSpec.upto orderLessSpec)

/-- 'quaysidelaw10.OrderKnew', WHERE WHAT IT READS IS OF BULK AT MOST 1048576: true; the input reads as it did. -/
def orderKnewUptoRow : OpenClaim := { program := "ytbbhpddgjiifmaa", sum := "c30e5bc3cd6f265e0049e6335019296981bff4b033831fa2789484444f9f0aaa", func := "quayside/quaysidelaw10.OrderKnew", spec := "orderKnew", unfollowed := true, recurses := true, apart := false, narrowed := true }
def OrderKnewUptoSaid : Prop := orderKnewUptoRow.holds Try.pinned (OpenSpec.upto orderKnewSpec)

/-- 'quaysidelaw10.OrderKnown', WHERE WHAT IT READS IS OF BULK AT MOST 1048576: true; the input reads as it did. -/
def orderKnownUptoRow : OpenClaim := { program := "ytbbhpddgjiifmaa", sum := "c30e5bc3cd6f265e0049e6335019296981bff4b033831fa2789484444f9f0aaa", func := "quayside/quaysidelaw10.OrderKnown", spec := "orderKnown", unfollowed := true, recurses := true, apart := false, narrowed := true }
def OrderKnownUptoSaid : Prop := orderKnownUptoRow.holds Try.pinned (OpenSpec.upto orderKnownSpec)

/-- 'quaysidelaw10.OrderExtends', WHERE WHAT IT READS IS OF BULK AT MOST 1048576: true; the input reads as it did. -/
def orderExtendsUptoRow : OpenClaim := { program := "ytbbhpddgjiifmaa", sum := "c30e5bc3cd6f265e0049e6335019296981bff4b033831fa2789484444f9f0aaa", func := "quayside/quaysidelaw10.OrderExtends", spec := "orderExtends", unfollowed := true, recurses := true, apart := false, narrowed := true }
def OrderExtendsUptoSaid : Prop := orderExtendsUptoRow.holds Try.pinned (OpenSpec.upto orderExtendsSpec)

end Rows
end Go.Proofs.Ytbbhpddgjiifmaa
