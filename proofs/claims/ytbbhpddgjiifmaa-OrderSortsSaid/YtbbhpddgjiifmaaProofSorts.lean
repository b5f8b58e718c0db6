/- The law OrderSorts: whatever its arguments, it returns true, and each argument reads afterwards as it read before. No condition. -/
import Derived.Test.YtbbhpddgjiifmaaEvents
import Derived.Test.YtbbhpddgjiifmaaLaw5
namespace Go.Proofs.Ytbbhpddgjiifmaa
open Go.ChangeShapes Go.WideShapes Go.ChangeAt Go.RowKit

set_option maxRecDepth 100000 in
theorem sorts_lifted (os : Os) (started : os.Started) (H : Type) (enc : TypeId × Value → H) :
    ReturnsInHanded {} Try.checked os 4 .any (Rows.orderSortsSpec.pre6 enc Try.prog Try.f4 Rows.orderSortsRow.domain false) (Rows.orderSortsSpec.post enc Try.prog Try.f4 false true false false) := by
  refine law_lifted (C := Try.checked) (tb := 4) Try.own started (by kernel_rfl) Try.func4 Try.laidOut rfl Try.underlying4 rfl ?_ ?_
    (ChangeSpec.witness6 (enc := enc) (C := Try.checked) false ⟨#[], #[.slice none 0 0, .int .i64 0], []⟩ 8 (by kernel_rfl) (by kernel_rfl) (by kernel_rfl) (by kernel_rfl)) ?_
  · intro ds hd
    have h3 : ds.length = 2 := hd
    match ds, h3 with
    | [a, b], _ => rfl
  · intro t ht
    rw [Try.params4] at ht
    simp only [List.mem_cons, List.not_mem_nil, or_false, or_self] at ht
    rcases ht with rfl | rfl
    · exact ⟨by kernel_rfl, of_decide_eq_true (by kernel_rfl)⟩
    · exact ⟨by kernel_rfl, of_decide_eq_true (by kernel_rfl)⟩
  · intro W base args ds ps hval0 hA0 hl0
    have hval : ∀ (j : Nat) t v, Try.f4.params[j]? = some t → args[j]? = some v → Value.okWide Try.prog W .any base t v := hval0
    have hA : DataW.TrodAll enc Try.prog W 0 (fun _ => true) true Try.f4.params.toList args.toList ds ps := hA0
    have hl : ∀ (j : Nat) t d, Try.f4.params.toList[j]? = some t → ds[j]? = some d → light Try.prog t d := hl0
    clear hval0 hA0 hl0
    rw [Try.params4] at hA hval hl
    obtain ⟨v0, v1, d0, d1, p0, p1, rfl, rfl, rfl, h0, h1⟩ := trodAll_two hA
    obtain ⟨a, ha⟩ := open_evs (hval 0 22 v0 rfl rfl) h0 (hl 0 22 d0 rfl rfl)
    obtain ⟨b, rfl, hb⟩ := open_int (hval 1 3 v1 rfl rfl) h1 (hl 1 3 d1 rfl rfl)
    exact C_OrderSorts ha hb

theorem sorts_holds : Rows.OrderSortsSaid :=
  OpenClaim.holds_of_wide 4 Try.f4 rfl rfl rfl rfl rfl rfl rfl ⟨rfl, rfl, rfl, rfl, rfl⟩ rfl rfl rfl rfl rfl (by kernel_rfl) Try.func4 (by kernel_rfl)
    (of_decide_eq_true (by kernel_rfl)) (by unfold Func.isWrapper; first | (rw [if_pos (by decide +kernel)]; kernel_rfl) | (rw [if_neg (by decide +kernel)]; exact ⟨rfl, rfl⟩))
    (fun os started H enc _ => sorts_lifted os started H enc)

#print axioms sorts_holds
end Go.Proofs.Ytbbhpddgjiifmaa
