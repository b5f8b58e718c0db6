/- The law TalkKnown: whatever its arguments, it returns true, and each argument reads afterwards as it read before. No condition. -/
import Derived.Test.YtgjgmojjeehieaaY12
set_option linter.unusedSimpArgs false
set_option linter.unusedVariables false
namespace Go.Proofs.Ytgjgmojjeehieaa
open Go.ChangeShapes Go.WideShapes Go.ChangeAt Go.RowKit

set_option maxRecDepth 100000 in
theorem tknown_lifted (os : Os) (started : os.Started) (H : Type) (enc : TypeId × Value → H) :
    ReturnsInHanded {} Try.checked os 14 .any (Rows.talkKnownSpec.pre6 enc Try.prog Try.f14 Rows.talkKnownRow.domain false) (Rows.talkKnownSpec.post enc Try.prog Try.f14 false true false false) := by
  refine law_lifted (C := Try.checked) (tb := 4) Try.own started (by kernel_rfl) Try.func14 Try.laidOut rfl Try.underlying4 rfl ?_ ?_
    (ChangeSpec.witness6 (enc := enc) (C := Try.checked) false ⟨#[], #[], []⟩ 8 (by kernel_rfl) (by kernel_rfl) (by kernel_rfl) (by kernel_rfl)) ?_
  · intro ds hd
    have h3 : ds.length = 0 := hd
    match ds, h3 with
    | [], _ => rfl
  · intro t ht
    rw [Try.params14] at ht
    cases ht
  · intro W base args ds ps hval0 hA0 hl0
    have hval : ∀ (j : Nat) t v, Try.f14.params[j]? = some t → args[j]? = some v → Value.okWide Try.prog W .any base t v := hval0
    have hA : DataW.TrodAll enc Try.prog W 0 (fun _ => true) true Try.f14.params.toList args.toList ds ps := hA0
    have hl : ∀ (j : Nat) t d, Try.f14.params.toList[j]? = some t → ds[j]? = some d → light Try.prog t d := hl0
    clear hval0 hA0 hl0
    rw [Try.params14] at hA hval hl
    obtain ⟨hargs, _, _⟩ := trodAll_nil hA
    rw [hargs]
    exact C_TalkKnown

theorem tknown_holds : Rows.TalkKnownSaid :=
  OpenClaim.holds_of_wide 14 Try.f14 rfl rfl rfl rfl rfl rfl rfl ⟨rfl, rfl, rfl, rfl, rfl⟩ rfl rfl rfl rfl rfl (by kernel_rfl) Try.func14 (by kernel_rfl)
    (of_decide_eq_true (by kernel_rfl)) (by unfold Func.isWrapper; first | (rw [if_pos (by decide +kernel)]; kernel_rfl) | (rw [if_neg (by decide +kernel)]; exact ⟨rfl, rfl⟩))
    (fun os started H enc _ => tknown_lifted os started H enc)

#print axioms tknown_holds
end Go.Proofs.Ytgjgmojjeehieaa
