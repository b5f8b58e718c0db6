/- Steps of the proofs of this seat: part A7. -/
import Derived.Test.YtgjgmojjeehieaaA6
import Derived.Test.YtgjgmojjeehieaaJunk
import Derived.Test.YtgjgmojjeehieaaMapO
set_option linter.unusedSimpArgs false
set_option linter.unusedVariables false
set_option maxRecDepth 8000
set_option maxHeartbeats 4000000
namespace Go.Proofs.Ytgjgmojjeehieaa
open Go.Proofs Go.RowKit

theorem ck3 (w : World) (e : Bool) (n : Nat) (a : Int) : (Instr.checkKey e (n + 1) 3 (.int .i64 a)).run Try.prog w = .ok () w := MapKept.run_checkKey Try.underlying3 (show MapKept.IsKey (.int .i64) (.int .i64 a) from rfl) e n
def enc2 (k : Int × Int) : Value := .agg #[.int .i64 k.1, .int .i64 k.2]
theorem K2 : KLaw Try.prog 33 enc2 where
  inj := by
    rintro ⟨a, b⟩ ⟨c, d⟩ h
    simp only [enc2, Value.agg.injEq, Array.mk.injEq, List.cons.injEq, Value.int.injEq, true_and, and_true] at h
    rw [h.1, h.2]
  desc := ⟨_, Try.underlying33, fun _ _ => rfl⟩
  check := by
    intro w e k
    show (Instr.checkKey e 10000 33 (.agg #[.int .i64 k.1, .int .i64 k.2])).run Try.prog w = .ok () w
    rw [show (10000 : Nat) = 9998 + 1 + 1 from rfl, Instr.checkKey]
    simp [go_sem, ck3]
  eql := by
    rintro w ⟨a, b⟩ ⟨c, d⟩
    rw [show decide ((a, b) = (c, d)) = (a == c && b == d) by rw [← decI2]; simp]
    unfold Op.equal Op.maxDepth enc2
    simp [go_sem]
    by_cases h1 : a = c <;> by_cases h2 : b = d <;> simp [h1, h2]
  stays := by intro k; simp [Instr.sameBits, enc2]
/-- An event in a map: its Deps are the map's own. -/
def EV (v : Value) (e : Ev) : HP := ⟨fun w f => ∃ vd, v = .agg (e.cells vd).toArray ∧ e.Ok ∧ (RowE (α := Int) own 3 vd e.deps).p w f, fun h hf => by
  obtain ⟨vd, h1, h2, h3⟩ := h
  exact ⟨vd, h1, h2, HP.loc _ h3 hf⟩⟩
def zeroE : Value := .agg ((⟨0, 0, 0, [], 0, 0, 0, 0, 0, 0⟩ : Ev).cells (.slice none 0 0)).toArray
def getE (L : List Ev) : Int × Int → Option Ev := fun k => L.find? (fun e => decide (e.origin = k.1 ∧ e.seq = k.2))
def cntE (L : List Ev) (o : Nat) : Nat := (L.filter (fun e => decide (e.origin = (o : Int)))).length
def vecE (n : Nat) (L : List Ev) : List Int := (List.range n).map (fun o => ((cntE L o : Nat) : Int))
def topE (L : List Ev) : Int := L.foldr (fun e m => max m e.lam) 0
/-- A set of events of n replicas. -/
def SetO (b : Nat) (n : Nat) (L : List Ev) : HP := Ex1 fun vv => Ex1 fun m => Star [Blk b #[vv, .map (some m), .int .i64 (topE L)] 73, RowE (α := Int) own 3 vv (vecE n L), MapO enc2 EV m (getE L)]
end Go.Proofs.Ytgjgmojjeehieaa
