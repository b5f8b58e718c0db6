/-
  No cell of these rows narrows 'for every input' (looked for: loops, veiled, ifaces, maps, wideKeys, modest, calm, conditions, laid).
  DERIVED. THE GIVEN ROWS OF THIS SEAT. 12 by the template 'for every input the law returns true; each argument reads behind the call as it read before'; 0 by the template 'total and deterministic' (their statements: YtgjgmojjeehieaaTotals.lean).
  GIVEN WITH THE SEED: the statements are not yours to turn. If you find one false, say at which input.
  Laid BY PROGRAM, IN A SANDBOX (cutbox-rows.mjs): the forced cells as the released guide's own fill.sh prints them over the translation 22badc18b10dc6b9… (all of the seat's roots in one cut). By AI agents, Wed Nov 11 2026. No macro, syntax, notation, axiom, sorry.
-/
import Derived.Test.YtgjgmojjeehieaaChecked
import GoSem.Claim
import GoSem.ClaimJoined
import GoSem.ClaimMapViews
import Derived.JoinedTies
import Derived.KernelRfl
namespace Go.Proofs.Ytgjgmojjeehieaa
/- THE CELL 'sum', in the pinned program and in every row, IS THE sha256 OF THE DUMP (.gsa) THAT YtgjgmojjeehieaaProg.lean LOADS. Nothing in Lean hashes anything: it is a label: what it is worth is what the hold of that sum in a sandbox is worth. -/
noncomputable def Try.pinned : Pinned := { name := "ytgjgmojjeehieaa", sum := "22badc18b10dc6b96870b47271d7ec6a1c42914f32d928203049f58d63288330", checked := Try.checked }
namespace Rows
def none {H : Type} : Left H := { results := [], args := [] }

/-- 'quaysidelaw09.CausalTurned': WHATEVER THE INPUT: true; the input reads as it did. -/
def causalTurnedSpec : ChangeSpec := { name := "causalTurned", fn := fun _ => fun
  | [d1, d2, d3, d4] => { results := [.lit (.bool true)], args := [d1, d2, d3, d4] }
  | _ => none }
def causalTurnedRow : OpenClaim := { program := "ytgjgmojjeehieaa", sum := "22badc18b10dc6b96870b47271d7ec6a1c42914f32d928203049f58d63288330", func := "quayside/quaysidelaw09.CausalTurned", spec := "causalTurned", unfollowed := true, recurses := true, plainKeys := false, apart := false }
def CausalTurnedSaid : Prop := causalTurnedRow.holds Try.pinned (OpenSpec.ofChange causalTurnedSpec)

/-- ITS FALSE NEIGHBOUR: 'it returns false'. Refute it at one input. -/
def causalTurnedWrong : ChangeSpec := { name := "causalTurned", fn := fun _ => fun
  | [d1, d2, d3, d4] => { results := [.lit (.bool false)], args := [d1, d2, d3, d4] }
  | _ => none }
def CausalTurnedWrongFalsely : Prop := causalTurnedRow.holds Try.pinned (OpenSpec.ofChange causalTurnedWrong)

/-- 'quaysidelaw09.CausalMissing': WHATEVER THE INPUT: true; the input reads as it did. -/
def causalMissingSpec : ChangeSpec := { name := "causalMissing", fn := fun _ => fun
  | [d1, d2, d3, d4] => { results := [.lit (.bool true)], args := [d1, d2, d3, d4] }
  | _ => none }
def causalMissingRow : OpenClaim := { program := "ytgjgmojjeehieaa", sum := "22badc18b10dc6b96870b47271d7ec6a1c42914f32d928203049f58d63288330", func := "quayside/quaysidelaw09.CausalMissing", spec := "causalMissing", unfollowed := true, recurses := true, plainKeys := false, apart := false }
def CausalMissingSaid : Prop := causalMissingRow.holds Try.pinned (OpenSpec.ofChange causalMissingSpec)

/-- ITS FALSE NEIGHBOUR: 'it returns false'. Refute it at one input. -/
def causalMissingWrong : ChangeSpec := { name := "causalMissing", fn := fun _ => fun
  | [d1, d2, d3, d4] => { results := [.lit (.bool false)], args := [d1, d2, d3, d4] }
  | _ => none }
def CausalMissingWrongFalsely : Prop := causalMissingRow.holds Try.pinned (OpenSpec.ofChange causalMissingWrong)

/-- 'quaysidelaw09.CausalRefuses': WHATEVER THE INPUT: true; the input reads as it did. -/
def causalRefusesSpec : ChangeSpec := { name := "causalRefuses", fn := fun _ => fun
  | [d1, d2] => { results := [.lit (.bool true)], args := [d1, d2] }
  | _ => none }
def causalRefusesRow : OpenClaim := { program := "ytgjgmojjeehieaa", sum := "22badc18b10dc6b96870b47271d7ec6a1c42914f32d928203049f58d63288330", func := "quayside/quaysidelaw09.CausalRefuses", spec := "causalRefuses", unfollowed := true, recurses := true, plainKeys := false, apart := false }
def CausalRefusesSaid : Prop := causalRefusesRow.holds Try.pinned (OpenSpec.ofChange causalRefusesSpec)

/-- ITS FALSE NEIGHBOUR: 'it returns false'. Refute it at one input. -/
def causalRefusesWrong : ChangeSpec := { name := "causalRefuses", fn := fun _ => fun
  | [d1, d2] => { results := [.lit (.bool false)], args := [d1, d2] }
  | _ => none }
def CausalRefusesWrongFalsely : Prop := causalRefusesRow.holds Try.pinned (OpenSpec.ofChange causalRefusesWrong)

/-- 'quaysidelaw09.CausalClosed': WHATEVER THE INPUT: true; the input reads as it did. -/
def causalClosedSpec : ChangeSpec := { name := "causalClosed", fn := fun _ => fun
  | [d1, d2] => { results := [.lit (.bool true)], args := [d1, d2] }
  | _ => none }
def causalClosedRow : OpenClaim := { program := "ytgjgmojjeehieaa", sum := "22badc18b10dc6b96870b47271d7ec6a1c42914f32d928203049f58d63288330", func := "quayside/quaysidelaw09.CausalClosed", spec := "causalClosed", unfollowed := true, recurses := true, plainKeys := false, apart := false }
def CausalClosedSaid : Prop := causalClosedRow.holds Try.pinned (OpenSpec.ofChange causalClosedSpec)

/-- ITS FALSE NEIGHBOUR: 'it returns false'. Refute it at one input. -/
def causalClosedWrong : ChangeSpec := { name := "causalClosed", fn := fun _ => fun
  | [d1, d2] => { results := [.lit (.bool false)], args := [d1, d2] }
  | _ => none }
def CausalClosedWrongFalsely : Prop := causalClosedRow.holds Try.pinned (OpenSpec.ofChange causalClosedWrong)

/-- 'quaysidelaw09.CausalKeyed': WHATEVER THE INPUT: true; the input reads as it did. -/
def causalKeyedSpec : ChangeSpec := { name := "causalKeyed", fn := fun _ => fun
  | [d1, d2, d3] => { results := [.lit (.bool true)], args := [d1, d2, d3] }
  | _ => none }
def causalKeyedRow : OpenClaim := { program := "ytgjgmojjeehieaa", sum := "22badc18b10dc6b96870b47271d7ec6a1c42914f32d928203049f58d63288330", func := "quayside/quaysidelaw09.CausalKeyed", spec := "causalKeyed", unfollowed := true, recurses := true, plainKeys := false, apart := false }
def CausalKeyedSaid : Prop := causalKeyedRow.holds Try.pinned (OpenSpec.ofChange causalKeyedSpec)

/-- ITS FALSE NEIGHBOUR: 'it returns false'. Refute it at one input. -/
def causalKeyedWrong : ChangeSpec := { name := "causalKeyed", fn := fun _ => fun
  | [d1, d2, d3] => { results := [.lit (.bool false)], args := [d1, d2, d3] }
  | _ => none }
def CausalKeyedWrongFalsely : Prop := causalKeyedRow.holds Try.pinned (OpenSpec.ofChange causalKeyedWrong)

/-- 'quaysidelaw09.CausalKnown': WHATEVER THE INPUT: true; the input reads as it did. -/
def causalKnownSpec : ChangeSpec := { name := "causalKnown", fn := fun _ => fun
  | [] => { results := [.lit (.bool true)], args := [] }
  | _ => none }
def causalKnownRow : OpenClaim := { program := "ytgjgmojjeehieaa", sum := "22badc18b10dc6b96870b47271d7ec6a1c42914f32d928203049f58d63288330", func := "quayside/quaysidelaw09.CausalKnown", spec := "causalKnown", unfollowed := true, recurses := true, plainKeys := false, apart := false }
def CausalKnownSaid : Prop := causalKnownRow.holds Try.pinned (OpenSpec.ofChange causalKnownSpec)

/-- ITS FALSE NEIGHBOUR: 'it returns false'. Refute it at one input. -/
def causalKnownWrong : ChangeSpec := { name := "causalKnown", fn := fun _ => fun
  | [] => { results := [.lit (.bool false)], args := [] }
  | _ => none }
def CausalKnownWrongFalsely : Prop := causalKnownRow.holds Try.pinned (OpenSpec.ofChange causalKnownWrong)

/-- 'quaysidelaw09.CausalAdds': WHATEVER THE INPUT: true; the input reads as it did. -/
def causalAddsSpec : ChangeSpec := { name := "causalAdds", fn := fun _ => fun
  | [d1, d2, d3, d4, d5, d6] => { results := [.lit (.bool true)], args := [d1, d2, d3, d4, d5, d6] }
  | _ => none }
def causalAddsRow : OpenClaim := { program := "ytgjgmojjeehieaa", sum := "22badc18b10dc6b96870b47271d7ec6a1c42914f32d928203049f58d63288330", func := "quayside/quaysidelaw09.CausalAdds", spec := "causalAdds", unfollowed := true, recurses := true, plainKeys := false, apart := false }
def CausalAddsSaid : Prop := causalAddsRow.holds Try.pinned (OpenSpec.ofChange causalAddsSpec)

/-- ITS FALSE NEIGHBOUR: 'it returns false'. Refute it at one input. -/
def causalAddsWrong : ChangeSpec := { name := "causalAdds", fn := fun _ => fun
  | [d1, d2, d3, d4, d5, d6] => { results := [.lit (.bool false)], args := [d1, d2, d3, d4, d5, d6] }
  | _ => none }
def CausalAddsWrongFalsely : Prop := causalAddsRow.holds Try.pinned (OpenSpec.ofChange causalAddsWrong)

/-- 'quaysidelaw27.TalkKinds': WHATEVER THE INPUT: true; the input reads as it did. -/
def talkKindsSpec : ChangeSpec := { name := "talkKinds", fn := fun _ => fun
  | [d1, d2, d3, d4, d5] => { results := [.lit (.bool true)], args := [d1, d2, d3, d4, d5] }
  | _ => none }
def talkKindsRow : OpenClaim := { program := "ytgjgmojjeehieaa", sum := "22badc18b10dc6b96870b47271d7ec6a1c42914f32d928203049f58d63288330", func := "quayside/quaysidelaw27.TalkKinds", spec := "talkKinds", unfollowed := true, recurses := true, plainKeys := false, apart := false }
def TalkKindsSaid : Prop := talkKindsRow.holds Try.pinned (OpenSpec.ofChange talkKindsSpec)

/-- ITS FALSE NEIGHBOUR: 'it returns false'. Refute it at one input. -/
def talkKindsWrong : ChangeSpec := { name := "talkKinds", fn := fun _ => fun
  | [d1, d2, d3, d4, d5] => { results := [.lit (.bool false)], args := [d1, d2, d3, d4, d5] }
  | _ => none }
def TalkKindsWrongFalsely : Prop := talkKindsRow.holds Try.pinned (OpenSpec.ofChange talkKindsWrong)

/-- 'quaysidelaw27.TalkAnswers': WHATEVER THE INPUT: true; the input reads as it did. -/
def talkAnswersSpec : ChangeSpec := { name := "talkAnswers", fn := fun _ => fun
  | [d1, d2, d3, d4, d5] => { results := [.lit (.bool true)], args := [d1, d2, d3, d4, d5] }
  | _ => none }
def talkAnswersRow : OpenClaim := { program := "ytgjgmojjeehieaa", sum := "22badc18b10dc6b96870b47271d7ec6a1c42914f32d928203049f58d63288330", func := "quayside/quaysidelaw27.TalkAnswers", spec := "talkAnswers", unfollowed := true, recurses := true, plainKeys := false, apart := false }
def TalkAnswersSaid : Prop := talkAnswersRow.holds Try.pinned (OpenSpec.ofChange talkAnswersSpec)

/-- ITS FALSE NEIGHBOUR: 'it returns false'. Refute it at one input. -/
def talkAnswersWrong : ChangeSpec := { name := "talkAnswers", fn := fun _ => fun
  | [d1, d2, d3, d4, d5] => { results := [.lit (.bool false)], args := [d1, d2, d3, d4, d5] }
  | _ => none }
def TalkAnswersWrongFalsely : Prop := talkAnswersRow.holds Try.pinned (OpenSpec.ofChange talkAnswersWrong)

/-- 'quaysidelaw27.TalkOnce': WHATEVER THE INPUT: true; the input reads as it did. -/
def talkOnceSpec : ChangeSpec := { name := "talkOnce", fn := fun _ => fun
  | [d1, d2, d3, d4] => { results := [.lit (.bool true)], args := [d1, d2, d3, d4] }
  | _ => none }
def talkOnceRow : OpenClaim := { program := "ytgjgmojjeehieaa", sum := "22badc18b10dc6b96870b47271d7ec6a1c42914f32d928203049f58d63288330", func := "quayside/quaysidelaw27.TalkOnce", spec := "talkOnce", unfollowed := true, recurses := true, plainKeys := false, apart := false }
def TalkOnceSaid : Prop := talkOnceRow.holds Try.pinned (OpenSpec.ofChange talkOnceSpec)

/-- ITS FALSE NEIGHBOUR: 'it returns false'. Refute it at one input. -/
def talkOnceWrong : ChangeSpec := { name := "talkOnce", fn := fun _ => fun
  | [d1, d2, d3, d4] => { results := [.lit (.bool false)], args := [d1, d2, d3, d4] }
  | _ => none }
def TalkOnceWrongFalsely : Prop := talkOnceRow.holds Try.pinned (OpenSpec.ofChange talkOnceWrong)

/-- 'quaysidelaw27.TalkMeets': WHATEVER THE INPUT: true; the input reads as it did. -/
def talkMeetsSpec : ChangeSpec := { name := "talkMeets", fn := fun _ => fun
  | [d1, d2, d3, d4] => { results := [.lit (.bool true)], args := [d1, d2, d3, d4] }
  | _ => none }
def talkMeetsRow : OpenClaim := { program := "ytgjgmojjeehieaa", sum := "22badc18b10dc6b96870b47271d7ec6a1c42914f32d928203049f58d63288330", func := "quayside/quaysidelaw27.TalkMeets", spec := "talkMeets", unfollowed := true, recurses := true, plainKeys := false, apart := false }
def TalkMeetsSaid : Prop := talkMeetsRow.holds Try.pinned (OpenSpec.ofChange talkMeetsSpec)

/-- ITS FALSE NEIGHBOUR: 'it returns false'. Refute it at one input. -/
def talkMeetsWrong : ChangeSpec := { name := "talkMeets", fn := fun _ => fun
  | [d1, d2, d3, d4] => { results := [.lit (.bool false)], args := [d1, d2, d3, d4] }
  | _ => none }
def TalkMeetsWrongFalsely : Prop := talkMeetsRow.holds Try.pinned (OpenSpec.ofChange talkMeetsWrong)

/-- 'quaysidelaw27.TalkKnown': WHATEVER THE INPUT: true; the input reads as it did. -/
def talkKnownSpec : ChangeSpec := { name := "talkKnown", fn := fun _ => fun
  | [] => { results := [.lit (.bool true)], args := [] }
  | _ => none }
def talkKnownRow : OpenClaim := { program := "ytgjgmojjeehieaa", sum := "22badc18b10dc6b96870b47271d7ec6a1c42914f32d928203049f58d63288330", func := "quayside/quaysidelaw27.TalkKnown", spec := "talkKnown", unfollowed := true, recurses := true, plainKeys := false, apart := false }
def TalkKnownSaid : Prop := talkKnownRow.holds Try.pinned (OpenSpec.ofChange talkKnownSpec)

/-- ITS FALSE NEIGHBOUR: 'it returns false'. Refute it at one input. -/
def talkKnownWrong : ChangeSpec := { name := "talkKnown", fn := fun _ => fun
  | [] => { results := [.lit (.bool false)], args := [] }
  | _ => none }
def TalkKnownWrongFalsely : Prop := talkKnownRow.holds Try.pinned (OpenSpec.ofChange talkKnownWrong)

/- THE SECOND FORM. 'bulk': how many values and letters a reading holds, each counted each time it is reached (what is shared counts as often as it is met; a slice's spare places count too). A statement '..UptoSaid' is the law's where the arguments, and the package variables that the reading takes, are together of bulk at most 1048576: NARROWER than '..Said'. Prove '..Said' where nothing that the law and all that it calls make is longer than what came in: it says more and counts as full. Else prove '..UptoSaid'. A law counts once. -/
mutual
def uptoBulk {H : Type} : DataW H → Nat
  | .lit (.string bytes) => bytes.length + 1
  | .lit _ => 1
  | .nil => 1
  | .ptr d => uptoBulk d + 1
  | .slice elems spare => uptoBulkAll elems + uptoBulkAll spare + 1
  | .agg parts => uptoBulkAll parts + 1
  | .iface _ d => uptoBulk d + 1
  | .map entries => uptoBulkEntries entries + 1
  | .held _ => 1
def uptoBulkAll {H : Type} : List (DataW H) → Nat
  | [] => 0
  | d :: r => uptoBulk d + uptoBulkAll r
def uptoBulkEntries {H : Type} : List (Lit × DataW H) → Nat
  | [] => 0
  | x :: r => uptoBulkEntry x + uptoBulkEntries r
def uptoBulkEntry {H : Type} : Lit × DataW H → Nat
  | (.string bytes, d) => bytes.length + uptoBulk d + 1
  | (_, d) => uptoBulk d + 1
 end
def uptoSmall : (H : Type) → List (DataW H) → Bool := fun _ ds => decide (uptoBulkAll ds ≤ 1048576)
def OpenSpec.upto (s : _root_.Go.ChangeSpec) : _root_.Go.OpenSpec := { _root_.Go.OpenSpec.ofChange s with cond := some uptoSmall }

/-- 'quaysidelaw09.CausalTurned', WHERE WHAT IT READS IS OF BULK AT MOST 1048576: true; the input reads as it did. -/
def causalTurnedUptoRow : OpenClaim := { program := "ytgjgmojjeehieaa", sum := "22badc18b10dc6b96870b47271d7ec6a1c42914f32d928203049f58d63288330", func := "quayside/quaysidelaw09.CausalTurned", spec := "causalTurned", unfollowed := true, recurses := true, plainKeys := false, apart := false, narrowed := true }
def CausalTurnedUptoSaid : Prop := causalTurnedUptoRow.holds Try.pinned (OpenSpec.upto causalTurnedSpec)

/-- 'quaysidelaw09.CausalMissing', WHERE WHAT IT READS IS OF BULK AT MOST 1048576: true; the input reads as it did. -/
def causalMissingUptoRow : OpenClaim := { program := "ytgjgmojjeehieaa", sum := "22badc18b10dc6b96870b47271d7ec6a1c42914f32d928203049f58d63288330", func := "quayside/quaysidelaw09.CausalMissing", spec := "causalMissing", unfollowed := true, recurses := true, plainKeys := false, apart := false, narrowed := true }
def CausalMissingUptoSaid : Prop := causalMissingUptoRow.holds Try.pinned (OpenSpec.upto causalMissingSpec)

/-- 'quaysidelaw09.CausalRefuses', WHERE WHAT IT READS IS OF BULK AT MOST 1048576: true; the input reads as it did. -/
def causalRefusesUptoRow : OpenClaim := { program := "ytgjgmojjeehieaa", sum := "22badc18b10dc6b96870b47271d7ec6a1c42914f32d928203049f58d63288330", func := "quayside/quaysidelaw09.CausalRefuses", spec := "causalRefuses", unfollowed := true, recurses := true, plainKeys := false, apart := false, narrowed := true }
def CausalRefusesUptoSaid : Prop := causalRefusesUptoRow.holds Try.pinned (OpenSpec.upto causalRefusesSpec)

/-- 'quaysidelaw09.CausalClosed', WHERE WHAT IT READS IS OF BULK AT MOST 1048576: true; the input reads as it did. -/
def causalClosedUptoRow : OpenClaim := { program := "ytgjgmojjeehieaa", sum := "22badc18b10dc6b96870b47271d7ec6a1c42914f32d928203049f58d63288330", func := "quayside/quaysidelaw09.CausalClosed", spec := "causalClosed", unfollowed := true, recurses := true, plainKeys := false, apart := false, narrowed := true }
def CausalClosedUptoSaid : Prop := causalClosedUptoRow.holds Try.pinned (OpenSpec.upto causalClosedSpec)

/-- 'quaysidelaw09.CausalKeyed', WHERE WHAT IT READS IS OF BULK AT MOST 1048576: true; the input reads as it did. -/
def causalKeyedUptoRow : OpenClaim := { program := "ytgjgmojjeehieaa", sum := "22badc18b10dc6b96870b47271d7ec6a1c42914f32d928203049f58d63288330", func := "quayside/quaysidelaw09.CausalKeyed", spec := "causalKeyed", unfollowed := true, recurses := true, plainKeys := false, apart := false, narrowed := true }
def CausalKeyedUptoSaid : Prop := causalKeyedUptoRow.holds Try.pinned (OpenSpec.upto causalKeyedSpec)

/-- 'quaysidelaw09.CausalKnown', WHERE WHAT IT READS IS OF BULK AT MOST 1048576: true; the input reads as it did. -/
def causalKnownUptoRow : OpenClaim := { program := "ytgjgmojjeehieaa", sum := "22badc18b10dc6b96870b47271d7ec6a1c42914f32d928203049f58d63288330", func := "quayside/quaysidelaw09.CausalKnown", spec := "causalKnown", unfollowed := true, recurses := true, plainKeys := false, apart := false, narrowed := true }
def CausalKnownUptoSaid : Prop := causalKnownUptoRow.holds Try.pinned (OpenSpec.upto causalKnownSpec)

/-- 'quaysidelaw09.CausalAdds', WHERE WHAT IT READS IS OF BULK AT MOST 1048576: true; the input reads as it did. -/
def causalAddsUptoRow : OpenClaim := { program := "ytgjgmojjeehieaa", sum := "22badc18b10dc6b96870b47271d7ec6a1c42914f32d928203049f58d63288330", func := "quayside/quaysidelaw09.CausalAdds", spec := "causalAdds", unfollowed := true, recurses := true, plainKeys := false, apart := false, narrowed := true }
def CausalAddsUptoSaid : Prop := causalAddsUptoRow.holds Try.pinned (OpenSpec.upto causalAddsSpec)

/-- 'quaysidelaw27.TalkKinds', WHERE WHAT IT READS IS OF BULK AT MOST 1048576: true; the input reads as it did. -/
def talkKindsUptoRow : OpenClaim := { program := "ytgjgmojjeehieaa", sum := "22badc18b10dc6b96870b47271d7ec6a1c42914f32d928203049f58d63288330", func := "quayside/quaysidelaw27.TalkKinds", spec := "talkKinds", unfollowed := true, recurses := true, plainKeys := false, apart := false, narrowed := true }
def TalkKindsUptoSaid : Prop := talkKindsUptoRow.holds Try.pinned (OpenSpec.upto talkKindsSpec)

/-- 'quaysidelaw27.TalkAnswers', WHERE WHAT IT READS IS OF BULK AT MOST 1048576: true; the input reads as it did. -/
def talkAnswersUptoRow : OpenClaim := { program := "ytgjgmojjeehieaa", sum := "22badc18b10dc6b96870b47271d7ec6a1c42914f32d928203049f58d63288330", func := "quayside/quaysidelaw27.TalkAnswers", spec := "talkAnswers", unfollowed := true, recurses := true, plainKeys := false, apart := false, narrowed := true }
def TalkAnswersUptoSaid : Prop := talkAnswersUptoRow.holds Try.pinned (OpenSpec.upto talkAnswersSpec)

/-- 'quaysidelaw27.TalkOnce', WHERE WHAT IT READS IS OF BULK AT MOST 1048576: true; the input reads as it did. -/
def talkOnceUptoRow : OpenClaim := { program := "ytgjgmojjeehieaa", sum := "22badc18b10dc6b96870b47271d7ec6a1c42914f32d928203049f58d63288330", func := "quayside/quaysidelaw27.TalkOnce", spec := "talkOnce", unfollowed := true, recurses := true, plainKeys := false, apart := false, narrowed := true }
def TalkOnceUptoSaid : Prop := talkOnceUptoRow.holds Try.pinned (OpenSpec.upto talkOnceSpec)

/-- 'quaysidelaw27.TalkMeets', WHERE WHAT IT READS IS OF BULK AT MOST 1048576: true; the input reads as it did. -/
def talkMeetsUptoRow : OpenClaim := { program := "ytgjgmojjeehieaa", sum := "22badc18b10dc6b96870b47271d7ec6a1c42914f32d928203049f58d63288330", func := "quayside/quaysidelaw27.TalkMeets", spec := "talkMeets", unfollowed := true, recurses := true, plainKeys := false, apart := false, narrowed := true }
def TalkMeetsUptoSaid : Prop := talkMeetsUptoRow.holds Try.pinned (OpenSpec.upto talkMeetsSpec)

/-- 'quaysidelaw27.TalkKnown', WHERE WHAT IT READS IS OF BULK AT MOST 1048576: true; the input reads as it did. -/
def talkKnownUptoRow : OpenClaim := { program := "ytgjgmojjeehieaa", sum := "22badc18b10dc6b96870b47271d7ec6a1c42914f32d928203049f58d63288330", func := "quayside/quaysidelaw27.TalkKnown", spec := "talkKnown", unfollowed := true, recurses := true, plainKeys := false, apart := false, narrowed := true }
def TalkKnownUptoSaid : Prop := talkKnownUptoRow.holds Try.pinned (OpenSpec.upto talkKnownSpec)

end Rows
end Go.Proofs.Ytgjgmojjeehieaa
