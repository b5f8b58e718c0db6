/- The law BufferRoom: whatever its arguments, it returns true, and each argument reads afterwards as it read before. No condition. -/
import Derived.Test.YtmiihhbeclhaoaaU13
set_option linter.unusedSimpArgs false
set_option linter.unusedVariables false
set_option linter.unusedSectionVars false
namespace Go.Proofs.Ytmiihhbeclhaoaa
open Go.ChangeShapes Go.WideShapes Go.ChangeAt Go.RowKit

set_option maxRecDepth 100000 in
theorem room_lifted (os : Os) (started : os.Started) (H : Type) (enc : TypeId × Value → H) :
    ReturnsInHanded {} Try.checked os 6 .any (Rows.bufferRoomSpec.pre6 enc Try.prog Try.f6 Rows.bufferRoomRow.domain false) (Rows.bufferRoomSpec.post enc Try.prog Try.f6 false true false false) := by
  refine law_lifted (C := Try.checked) (tb := 4) Try.own started (by kernel_rfl) Try.func6 Try.laidOut rfl Try.underlying4 rfl ?_ ?_
    (ChangeSpec.witness6 (enc := enc) (C := Try.checked) false ⟨#[], #[.int .i64 0], []⟩ 8 (by kernel_rfl) (by kernel_rfl) (by kernel_rfl) (by kernel_rfl)) ?_
  · intro ds hd
    have h3 : ds.length = 1 := hd
    match ds, h3 with
    | [z0], _ => rfl
  · intro t ht
    rw [Try.params6] at ht
    simp only [List.mem_cons, List.not_mem_nil, or_false, or_self] at ht
    have hall : ∀ t ∈ [3], Try.prog.readableRec t = true ∧ t < Try.prog.types.size := by
      intro t ht
      simp only [List.mem_cons, List.not_mem_nil, or_false] at ht
      subst ht; exact ⟨by kernel_rfl, of_decide_eq_true (by kernel_rfl)⟩
    exact hall t (by simp only [List.mem_cons, List.not_mem_nil, or_false]; first | omega | exact ht | grind)
  · intro W base args ds ps hval0 hA0 hl0
    have hval : ∀ (j : Nat) t v, Try.f6.params[j]? = some t → args[j]? = some v → Value.okWide Try.prog W .any base t v := hval0
    have hA : DataW.TrodAll enc Try.prog W 0 (fun _ => true) true Try.f6.params.toList args.toList ds ps := hA0
    have hl : ∀ (j : Nat) t d, Try.f6.params.toList[j]? = some t → ds[j]? = some d → light Try.prog t d := hl0
    clear hval0 hA0 hl0
    rw [Try.params6] at hA hval hl
    obtain ⟨v0, vs0, d0, ds0, p0, q0, hv0, hd0, _, h0, hA0⟩ := trodAll_cons hA
    obtain ⟨hn, hm, _⟩ := trodAll_nil hA0
    subst hn hm
    obtain rfl : args = #[v0] := Array.toList_inj.1 hv0
    subst hd0
    obtain ⟨z0, rfl, hz0⟩ := open_int (hval 0 3 v0 rfl rfl) h0 (hl 0 3 d0 rfl rfl)
    exact C_BufferRoom hz0

theorem room_holds : Rows.BufferRoomSaid :=
  OpenClaim.holds_of_wide 6 Try.f6 rfl rfl rfl rfl rfl rfl rfl ⟨rfl, rfl, rfl, rfl, rfl⟩ rfl rfl rfl rfl rfl (by kernel_rfl) Try.func6 (by kernel_rfl)
    (of_decide_eq_true (by kernel_rfl)) (by unfold Func.isWrapper; first | (rw [if_pos (by decide +kernel)]; kernel_rfl) | (rw [if_neg (by decide +kernel)]; exact ⟨rfl, rfl⟩))
    (fun os started H enc _ => room_lifted os started H enc)

#print axioms room_holds
end Go.Proofs.Ytmiihhbeclhaoaa
