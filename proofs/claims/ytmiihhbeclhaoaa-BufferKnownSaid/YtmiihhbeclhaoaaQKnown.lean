/- The law BufferKnown: whatever its arguments, it returns true, and each argument reads afterwards as it read before. No condition. -/
import Derived.Test.YtmiihhbeclhaoaaY16
set_option linter.unusedSimpArgs false
set_option linter.unusedVariables false
set_option linter.unusedSectionVars false
namespace Go.Proofs.Ytmiihhbeclhaoaa
open Go.ChangeShapes Go.WideShapes Go.ChangeAt Go.RowKit

set_option maxRecDepth 100000 in
theorem Wd (os : Os) (started : os.Started) (H : Type) (enc : TypeId × Value → H) :
    ReturnsInHanded {} Try.checked os 7 .any (Rows.bufferKnownSpec.pre6 enc Try.prog Try.f7 Rows.bufferKnownRow.domain false) (Rows.bufferKnownSpec.post enc Try.prog Try.f7 false true false false) := by
  refine VJ (C := Try.checked) (tb := 4) Try.own started (by kernel_rfl) Try.func7 Try.laidOut rfl Try.underlying4 rfl ?_ ?_
    (ChangeSpec.witness6 (enc := enc) (C := Try.checked) false ⟨#[], #[], []⟩ 8 (by kernel_rfl) (by kernel_rfl) (by kernel_rfl) (by kernel_rfl)) ?_
  · intro ds hd
    have h3 : ds.length = 0 := hd
    match ds, h3 with
    | [], _ => rfl
  · intro t ht
    rw [Try.params7] at ht
    cases ht
  · intro W base args ds ps hval0 hA0 hl0
    have hval : ∀ (j : Nat) t v, Try.f7.params[j]? = some t → args[j]? = some v → Value.okWide Try.prog W .any base t v := hval0
    have hA : DataW.TrodAll enc Try.prog W 0 (fun _ => true) true Try.f7.params.toList args.toList ds ps := hA0
    have hl : ∀ (j : Nat) t d, Try.f7.params.toList[j]? = some t → ds[j]? = some d → Jd Try.prog t d := hl0
    clear hval0 hA0 hl0
    rw [Try.params7] at hA hval hl
    obtain ⟨hargs, _, _⟩ := trodAll_nil hA
    rw [hargs]
    exact Xh

theorem known_holds : Rows.BufferKnownSaid :=
  OpenClaim.holds_of_wide 7 Try.f7 rfl rfl rfl rfl rfl rfl rfl ⟨rfl, rfl, rfl, rfl, rfl⟩ rfl rfl rfl rfl rfl (by kernel_rfl) Try.func7 (by kernel_rfl)
    (of_decide_eq_true (by kernel_rfl)) (by unfold Func.isWrapper; first | (rw [if_pos (by decide +kernel)]; kernel_rfl) | (rw [if_neg (by decide +kernel)]; exact ⟨rfl, rfl⟩))
    (fun os started H enc _ => Wd os started H enc)

#print axioms known_holds
end Go.Proofs.Ytmiihhbeclhaoaa
