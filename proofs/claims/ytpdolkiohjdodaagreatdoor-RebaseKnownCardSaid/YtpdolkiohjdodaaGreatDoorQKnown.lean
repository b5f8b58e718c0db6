import Derived.Test.YtpdolkiohjdodaaGreatDoorM5
import Derived.Test.YtpdolkiohjdodaaGreatDoorTie
import Derived.Test.YtpdolkiohjdodaaGreatDoorCards
import Derived.SevenTiedAt
import Derived.Test.YtpdolkiohjdodaaGreatDoorM14
/- The law RebaseKnown: whatever its arguments, it returns true, and each argument reads afterwards as it read before. No condition. -/
namespace Go.Proofs.YtpdolkiohjdodaaGreatDoor
open Go.ChangeShapes Go.WideShapes Go.ChangeAt Go.RowKit

set_option maxRecDepth 100000 in
theorem Vu (os : Os) (started : os.Started) (H : Type) (enc : TypeId × Value → H) :
    ReturnsInHanded {} Tryz.checked os 4 .any (fun w args => (Rows.rebaseKnownSpec.pre enc Tryz.prog Tryz.f4 [] false w args ∧ laidMetH Tryz.prog [("quayside/schema.kinds", Rows.laid_quayside_schema_kinds)] w) ∧ sizedMet enc Tryz.prog Tryz.f4 (OpenSpec.ofChange Rows.rebaseKnownSpec) false w args) (Rows.rebaseKnownSpec.post enc Tryz.prog Tryz.f4 false true false false) := by
  refine WB (C := Tryz.checked) (laid := [("quayside/schema.kinds", Rows.laid_quayside_schema_kinds)]) (tb := 4) Tryz.own started (by kernel_rfl) Tryz.func4 Tryz.laidOut rfl Tryz.underlying4 rfl ?_ ?_
    (ChangeSpec.witness_shaped (enc := enc) (C := Tryz.checked) (os := os) (X := fun w _ => laidMetH Tryz.prog [("quayside/schema.kinds", Rows.laid_quayside_schema_kinds)] w) false (World.doorLaid Tryz.prog 14 os) #[] 8 rfl (World.shaped_of_RefB (by kernel_rfl) (by kernel_rfl)) (by kernel_rfl) (by kernel_rfl) (by kernel_rfl) (zas os _)) ?_
  · intro ds hd
    have h3 : ds.length = 0 := hd
    match ds, h3 with
    | [], _ => rfl
  · intro t ht
    rw [Tryz.params4] at ht
    cases ht
  · intro W base args ds ps hval0 hA0 hl0 hL0
    have hval : ∀ (j : Nat) t v, Tryz.f4.params[j]? = some t → args[j]? = some v → Value.okWide Tryz.prog W .any base t v := hval0
    have hA : DataW.TrodAll enc Tryz.prog W 0 (fun _ => true) true Tryz.f4.params.toList args.toList ds ps := hA0
    have hl : ∀ (j : Nat) t d, Tryz.f4.params.toList[j]? = some t → ds[j]? = some d → zcz Tryz.prog t d := hl0
    clear hval0 hA0 hl0
    rw [Tryz.params4] at hA hval hl
    obtain ⟨hargs, _, _⟩ := trodAll_nil hA
    rw [hargs]
    exact VL (JF hL0)

theorem VP : Rows.RebaseKnownSaid :=
  OpenClaim.holds_of_wide 4 Tryz.f4 rfl rfl rfl rfl rfl rfl rfl ⟨rfl, rfl, rfl, rfl, rfl⟩ rfl rfl rfl rfl rfl (by kernel_rfl) Tryz.func4 (by kernel_rfl)
    (of_decide_eq_true (by kernel_rfl)) (by unfold Func.isWrapper; first | (rw [if_pos (by decide +kernel)]; kernel_rfl) | (rw [if_neg (by decide +kernel)]; exact ⟨rfl, rfl⟩))
    (fun os started H enc _ => Vu os started H enc)

theorem known17_card : Rows.RebaseKnownCardSaid :=
  Claim7.holds_tied_plain_at .later [] [.data] true (true, "a9f399040d2a45a851922d101acbc7dd0cbe0dc135db46843e2bf27bb09db207") true
    VP (fun _ h => by cases h) (by kernel_rfl) (fun _ h => by cases h) rebaseKnown_row_tie rfl ⟨rfl, rfl⟩ (by kernel_rfl) rfl
    (fun f fn hf hfn => by
      obtain rfl : f = 4 := Option.some.inj ((show Tryz.prog.funcNamed Rows.rebaseKnownRow.func = some 4 by kernel_rfl).symm.trans hf) |>.symm
      obtain rfl : fn = Tryz.f4 := (Option.some.inj (Tryz.func4.symm.trans hfn)).symm
      exact ⟨by kernel_rfl, fun j t ht => by rw [Tryz.params4] at ht; simp at ht⟩)
    (by kernel_rfl)

#print axioms known17_card
end Go.Proofs.YtpdolkiohjdodaaGreatDoor
