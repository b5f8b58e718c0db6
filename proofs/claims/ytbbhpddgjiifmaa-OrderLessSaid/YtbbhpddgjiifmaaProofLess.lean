/- The law OrderLess: for every three events it returns true, and each argument reads afterwards as it read before. No condition. -/
import Derived.Test.YtbbhpddgjiifmaaEvents
import Derived.Test.YtbbhpddgjiifmaaLaw1
namespace Go.Proofs.Ytbbhpddgjiifmaa
open Go.ChangeShapes Go.WideShapes Go.ChangeAt Go.RowKit

set_option maxRecDepth 100000 in
theorem less_lifted (os : Os) (started : os.Started) (H : Type) (enc : TypeId × Value → H) :
    ReturnsInHanded {} Try.checked os 5 .any (Rows.orderLessSpec.pre6 enc Try.prog Try.f5 Rows.orderLessRow.domain false) (Rows.orderLessSpec.post enc Try.prog Try.f5 false true false false) := by
  refine law_lifted (C := Try.checked) (tb := 4) Try.own started (by kernel_rfl) Try.func5 Try.laidOut rfl Try.underlying4 rfl ?_ ?_
    (ChangeSpec.witness6 (enc := enc) (C := Try.checked) false ⟨#[], #[.agg ((Ev.mk 0 0 0 [] 0 0 0 0 0 0).cells (.slice none 0 0)).toArray, .agg ((Ev.mk 0 0 0 [] 0 0 0 0 0 0).cells (.slice none 0 0)).toArray, .agg ((Ev.mk 0 0 0 [] 0 0 0 0 0 0).cells (.slice none 0 0)).toArray], []⟩ 8 (by kernel_rfl) (by kernel_rfl) (by kernel_rfl) (by kernel_rfl)) ?_
  · intro ds hd
    have h3 : ds.length = 3 := hd
    match ds, h3 with
    | [a, b, c], _ => rfl
  · intro t ht
    rw [Try.params5] at ht
    simp only [List.mem_cons, List.not_mem_nil, or_false, or_self] at ht
    subst ht
    exact ⟨by kernel_rfl, of_decide_eq_true (by kernel_rfl)⟩
  · intro W base args ds ps hval0 hA0 hl0
    have hval : ∀ (j : Nat) t v, Try.f5.params[j]? = some t → args[j]? = some v → Value.okWide Try.prog W .any base t v := hval0
    have hA : DataW.TrodAll enc Try.prog W 0 (fun _ => true) true Try.f5.params.toList args.toList ds ps := hA0
    have hl : ∀ (j : Nat) t d, Try.f5.params.toList[j]? = some t → ds[j]? = some d → light Try.prog t d := hl0
    clear hval0 hA0 hl0
    rw [Try.params5] at hA hval hl
    obtain ⟨v0, v1, v2, d0, d1, d2, p0, p1, p2, rfl, rfl, rfl, h0, h1, h2⟩ := trodAll_three hA
    obtain ⟨a, da, rfl, ha, oa⟩ := open_ev (hval 0 29 v0 rfl rfl) h0 (hl 0 29 d0 rfl rfl)
    obtain ⟨b, db, rfl, hb, ob⟩ := open_ev (hval 1 29 v1 rfl rfl) h1 (hl 1 29 d1 rfl rfl)
    obtain ⟨c, dc, rfl, hc, oc⟩ := open_ev (hval 2 29 v2 rfl rfl) h2 (hl 2 29 d2 rfl rfl)
    exact C_OrderLess ha oa hb ob hc oc

theorem less_holds : Rows.OrderLessSaid :=
  OpenClaim.holds_of_wide 5 Try.f5 rfl rfl rfl rfl rfl rfl rfl ⟨rfl, rfl, rfl, rfl, rfl⟩ rfl rfl rfl rfl rfl (by kernel_rfl) Try.func5 (by kernel_rfl)
    (of_decide_eq_true (by kernel_rfl)) (by unfold Func.isWrapper; first | (rw [if_pos (by decide +kernel)]; kernel_rfl) | (rw [if_neg (by decide +kernel)]; exact ⟨rfl, rfl⟩))
    (fun os started H enc _ => less_lifted os started H enc)

#print axioms less_holds
end Go.Proofs.Ytbbhpddgjiifmaa
