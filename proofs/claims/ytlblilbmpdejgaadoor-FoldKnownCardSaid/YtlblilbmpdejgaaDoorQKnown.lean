import Derived.Test.YtlblilbmpdejgaaDoorV5
import Derived.Test.YtlblilbmpdejgaaDoorTie
import Derived.Test.YtlblilbmpdejgaaDoorCards
import Derived.SevenTiedAt
import Derived.Test.YtlblilbmpdejgaaDoorV11
/- The law FoldKnown: whatever its arguments, it returns true, and each argument reads afterwards as it read before. No condition. -/
namespace Go.Proofs.YtlblilbmpdejgaaDoor
open Go.ChangeShapes Go.WideShapes Go.ChangeAt Go.RowKit

set_option maxRecDepth 100000 in
theorem Wp (os : Os) (started : os.Started) (H : Type) (enc : TypeId × Value → H) :
    ReturnsInHanded {} Tryd.checked os 8 .any (fun w args => (Rows.foldKnownSpec.pre enc Tryd.prog Tryd.f8 [] false w args ∧ laidMetH Tryd.prog [("quayside/schema.kinds", Rows.laid_quayside_schema_kinds)] w) ∧ sizedMet enc Tryd.prog Tryd.f8 (OpenSpec.ofChange Rows.foldKnownSpec) false w args) (Rows.foldKnownSpec.post enc Tryd.prog Tryd.f8 false true false false) := by
  refine YO (C := Tryd.checked) (laid := [("quayside/schema.kinds", Rows.laid_quayside_schema_kinds)]) (tb := 4) Tryd.own started (by kernel_rfl) Tryd.func8 Tryd.laidOut rfl Tryd.underlying4 rfl ?_ ?_
    (ChangeSpec.witness_shaped (enc := enc) (C := Tryd.checked) (os := os) (X := fun w _ => laidMetH Tryd.prog [("quayside/schema.kinds", Rows.laid_quayside_schema_kinds)] w) false (World.doorLaid Tryd.prog 14 os) #[] 8 rfl (World.shaped_of_RefB (by kernel_rfl) (by kernel_rfl)) (by kernel_rfl) (by kernel_rfl) (by kernel_rfl) (QL os _)) ?_
  · intro ds hd
    have h3 : ds.length = 0 := hd
    match ds, h3 with
    | [], _ => rfl
  · intro t ht
    rw [Tryd.params8] at ht
    cases ht
  · intro W base args ds ps hval0 hA0 hl0 hL0
    have hval : ∀ (j : Nat) t v, Tryd.f8.params[j]? = some t → args[j]? = some v → Value.okWide Tryd.prog W .any base t v := hval0
    have hA : DataW.TrodAll enc Tryd.prog W 0 (fun _ => true) true Tryd.f8.params.toList args.toList ds ps := hA0
    have hl : ∀ (j : Nat) t d, Tryd.f8.params.toList[j]? = some t → ds[j]? = some d → KM Tryd.prog t d := hl0
    clear hval0 hA0 hl0
    rw [Tryd.params8] at hA hval hl
    obtain ⟨hargs, _, _⟩ := trodAll_nil hA
    rw [hargs]
    exact Vh (UU hL0)

theorem WM : Rows.FoldKnownSaid :=
  OpenClaim.holds_of_wide 8 Tryd.f8 rfl rfl rfl rfl rfl rfl rfl ⟨rfl, rfl, rfl, rfl, rfl⟩ rfl rfl rfl rfl rfl (by kernel_rfl) Tryd.func8 (by kernel_rfl)
    (of_decide_eq_true (by kernel_rfl)) (by unfold Func.isWrapper; first | (rw [if_pos (by decide +kernel)]; kernel_rfl) | (rw [if_neg (by decide +kernel)]; exact ⟨rfl, rfl⟩))
    (fun os started H enc _ => Wp os started H enc)

theorem known_card : Rows.FoldKnownCardSaid :=
  Claim7.holds_tied_plain_at .later [] [.data] true (true, "813f66fb7fb397c704ad7d46d6795482353df011d17e58d115846a2b1024b68c") false
    WM (fun _ h => by cases h) (by kernel_rfl) (fun _ h => by cases h) foldKnown_row_tie rfl ⟨rfl, rfl⟩ (by kernel_rfl) rfl
    (fun f fn hf hfn => by
      obtain rfl : f = 8 := Option.some.inj ((show Tryd.prog.funcNamed Rows.foldKnownRow.func = some 8 by kernel_rfl).symm.trans hf) |>.symm
      obtain rfl : fn = Tryd.f8 := (Option.some.inj (Tryd.func8.symm.trans hfn)).symm
      exact ⟨by kernel_rfl, fun j t ht => by rw [Tryd.params8] at ht; simp at ht⟩)
    (by kernel_rfl)

#print axioms known_card
end Go.Proofs.YtlblilbmpdejgaaDoor
