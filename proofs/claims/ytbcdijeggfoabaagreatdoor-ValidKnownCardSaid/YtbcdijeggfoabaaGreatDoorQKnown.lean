import Derived.Test.YtbcdijeggfoabaaGreatDoorZ5
import Derived.Test.YtbcdijeggfoabaaGreatDoorTie
import Derived.Test.YtbcdijeggfoabaaGreatDoorCards
import Derived.SevenTiedAt
import Derived.Test.YtbcdijeggfoabaaGreatDoorZ13
/- The law ValidKnown: whatever its arguments, it returns true, and each argument reads afterwards as it read before. No condition. -/
namespace Go.Proofs.YtbcdijeggfoabaaGreatDoor
open Go.ChangeShapes Go.WideShapes Go.ChangeAt Go.RowKit

set_option maxRecDepth 100000 in
theorem VH (os : Os) (started : os.Started) (H : Type) (enc : TypeId × Value → H) :
    ReturnsInHanded {} Tryz.checked os 4 .any (fun w args => (Rows.validKnownSpec.pre enc Tryz.prog Tryz.f4 [] false w args ∧ laidMetH Tryz.prog [("quayside/schema.kinds", Rows.laid_quayside_schema_kinds)] w) ∧ sizedMet enc Tryz.prog Tryz.f4 (OpenSpec.ofChange Rows.validKnownSpec) false w args) (Rows.validKnownSpec.post enc Tryz.prog Tryz.f4 false true false false) := by
  refine Wm (C := Tryz.checked) (laid := [("quayside/schema.kinds", Rows.laid_quayside_schema_kinds)]) (tb := 4) Tryz.own started (by kernel_rfl) Tryz.func4 Tryz.laidOut rfl Tryz.underlying4 rfl ?_ ?_
    (ChangeSpec.witness_shaped (enc := enc) (C := Tryz.checked) (os := os) (X := fun w _ => laidMetH Tryz.prog [("quayside/schema.kinds", Rows.laid_quayside_schema_kinds)] w) false (World.doorLaid Tryz.prog 14 os) #[] 8 rfl (World.shaped_of_RefB (by kernel_rfl) (by kernel_rfl)) (by kernel_rfl) (by kernel_rfl) (by kernel_rfl) (zbp os _)) ?_
  · intro ds hd
    have h3 : ds.length = 0 := hd
    match ds, h3 with
    | [], _ => rfl
  · intro t ht
    rw [Tryz.params4] at ht
    cases ht
  · intro W base args ds ps hval0 hA0 hl0 hL0
    have hval : ∀ (j : Nat) t v, Tryz.f4.params[j]? = some t → args[j]? = some v → Value.okWide Tryz.prog W .any base t v := hval0
    have hA : DataW.TrodAll enc Tryz.prog W 0 (fun _ => true) true Tryz.f4.params.toList args.toList ds ps := hA0
    have hl : ∀ (j : Nat) t d, Tryz.f4.params.toList[j]? = some t → ds[j]? = some d → zdQ Tryz.prog t d := hl0
    clear hval0 hA0 hl0
    rw [Tryz.params4] at hA hval hl
    obtain ⟨hargs, _, _⟩ := trodAll_nil hA
    rw [hargs]
    exact UE (zap hL0)

theorem VM : Rows.ValidKnownSaid :=
  OpenClaim.holds_of_wide 4 Tryz.f4 rfl rfl rfl rfl rfl rfl rfl ⟨rfl, rfl, rfl, rfl, rfl⟩ rfl rfl rfl rfl rfl (by kernel_rfl) Tryz.func4 (by kernel_rfl)
    (of_decide_eq_true (by kernel_rfl)) (by unfold Func.isWrapper; first | (rw [if_pos (by decide +kernel)]; kernel_rfl) | (rw [if_neg (by decide +kernel)]; exact ⟨rfl, rfl⟩))
    (fun os started H enc _ => VH os started H enc)

theorem known15_card : Rows.ValidKnownCardSaid :=
  Claim7.holds_tied_plain_at .later [] [.data] true (true, "88a6ab59fa8c987b54ebf39e5b78cdd662411d7ebd0b92ec1823ad23cd5ec19c") false
    VM (fun _ h => by cases h) (by kernel_rfl) (fun _ h => by cases h) validKnown_row_tie rfl ⟨rfl, rfl⟩ (by kernel_rfl) rfl
    (fun f fn hf hfn => by
      obtain rfl : f = 4 := Option.some.inj ((show Tryz.prog.funcNamed Rows.validKnownRow.func = some 4 by kernel_rfl).symm.trans hf) |>.symm
      obtain rfl : fn = Tryz.f4 := (Option.some.inj (Tryz.func4.symm.trans hfn)).symm
      exact ⟨by kernel_rfl, fun j t ht => by rw [Tryz.params4] at ht; simp at ht⟩)
    (by kernel_rfl)

#print axioms known15_card
end Go.Proofs.YtbcdijeggfoabaaGreatDoor
