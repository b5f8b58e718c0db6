/- The law OrderKnew: for every two events it returns true, and each argument reads afterwards as it read before. No condition. -/
import Derived.Test.YtbbhpddgjiifmaaEvents
import Derived.Test.YtbbhpddgjiifmaaLaw2
namespace Go.Proofs.Ytbbhpddgjiifmaa
open Go.ChangeShapes Go.WideShapes Go.ChangeAt Go.RowKit

set_option maxRecDepth 100000 in
theorem knew_lifted (os : Os) (started : os.Started) (H : Type) (enc : TypeId × Value → H) :
    ReturnsInHanded {} Try.checked os 6 .any (Rows.orderKnewSpec.pre6 enc Try.prog Try.f6 Rows.orderKnewRow.domain false) (Rows.orderKnewSpec.post enc Try.prog Try.f6 false true false false) := by
  refine law_lifted (C := Try.checked) (tb := 4) Try.own started (by kernel_rfl) Try.func6 Try.laidOut rfl Try.underlying4 rfl ?_ ?_
    (ChangeSpec.witness6 (enc := enc) (C := Try.checked) false ⟨#[], #[.agg ((Ev.mk 0 0 0 [] 0 0 0 0 0 0).cells (.slice none 0 0)).toArray, .agg ((Ev.mk 0 0 0 [] 0 0 0 0 0 0).cells (.slice none 0 0)).toArray], []⟩ 8 (by kernel_rfl) (by kernel_rfl) (by kernel_rfl) (by kernel_rfl)) ?_
  · intro ds hd
    have hn : ds.length = 2 := hd
    match ds, hn with
    | [a, b], _ => rfl
  · intro t ht
    rw [Try.params6] at ht
    simp only [List.mem_cons, List.not_mem_nil, or_false, or_self] at ht
    subst ht
    exact ⟨by kernel_rfl, of_decide_eq_true (by kernel_rfl)⟩
  · intro W base args ds ps hval0 hA0 hl0
    have hval : ∀ (j : Nat) t v, Try.f6.params[j]? = some t → args[j]? = some v → Value.okWide Try.prog W .any base t v := hval0
    have hA : DataW.TrodAll enc Try.prog W 0 (fun _ => true) true Try.f6.params.toList args.toList ds ps := hA0
    have hl : ∀ (j : Nat) t d, Try.f6.params.toList[j]? = some t → ds[j]? = some d → light Try.prog t d := hl0
    clear hval0 hA0 hl0
    rw [Try.params6] at hA hval hl
    obtain ⟨v0, v1, d0, d1, p0, p1, rfl, rfl, rfl, h0, h1⟩ := trodAll_two hA
    obtain ⟨a, da, rfl, ha, oa⟩ := open_ev (hval 0 29 v0 rfl rfl) h0 (hl 0 29 d0 rfl rfl)
    obtain ⟨b, db, rfl, hb, ob⟩ := open_ev (hval 1 29 v1 rfl rfl) h1 (hl 1 29 d1 rfl rfl)
    exact C_OrderKnew ha oa hb ob

theorem knew_holds : Rows.OrderKnewSaid :=
  OpenClaim.holds_of_wide 6 Try.f6 rfl rfl rfl rfl rfl rfl rfl ⟨rfl, rfl, rfl, rfl, rfl⟩ rfl rfl rfl rfl rfl (by kernel_rfl) Try.func6 (by kernel_rfl)
    (of_decide_eq_true (by kernel_rfl)) (by unfold Func.isWrapper; first | (rw [if_pos (by decide +kernel)]; kernel_rfl) | (rw [if_neg (by decide +kernel)]; exact ⟨rfl, rfl⟩))
    (fun os started H enc _ => knew_lifted os started H enc)

#print axioms knew_holds
end Go.Proofs.Ytbbhpddgjiifmaa

