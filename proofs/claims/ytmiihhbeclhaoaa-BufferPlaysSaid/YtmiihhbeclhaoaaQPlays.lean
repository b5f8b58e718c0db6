/- The law BufferPlays: whatever its arguments, it returns true, and each argument reads afterwards as it read before. No condition. -/
import Derived.Test.YtmiihhbeclhaoaaX16
set_option linter.unusedSimpArgs false
set_option linter.unusedVariables false
set_option linter.unusedSectionVars false
namespace Go.Proofs.Ytmiihhbeclhaoaa
open Go.ChangeShapes Go.WideShapes Go.ChangeAt Go.RowKit

set_option maxRecDepth 100000 in
theorem plays_lifted (os : Os) (started : os.Started) (H : Type) (enc : TypeId × Value → H) :
    ReturnsInHanded {} Try.checked os 5 .any (Rows.bufferPlaysSpec.pre6 enc Try.prog Try.f5 Rows.bufferPlaysRow.domain false) (Rows.bufferPlaysSpec.post enc Try.prog Try.f5 false true false false) := by
  refine law_lifted (C := Try.checked) (tb := 4) Try.own started (by kernel_rfl) Try.func5 Try.laidOut rfl Try.underlying4 rfl ?_ ?_
    (ChangeSpec.witness6 (enc := enc) (C := Try.checked) false ⟨#[], #[.int .i64 0, .int .i64 0, .slice none 0 0, .int .i64 0], []⟩ 8 (by kernel_rfl) (by kernel_rfl) (by kernel_rfl) (by kernel_rfl)) ?_
  · intro ds hd
    have h3 : ds.length = 4 := hd
    match ds, h3 with
    | [z0, z1, z2, z3], _ => rfl
  · intro t ht
    rw [Try.params5] at ht
    simp only [List.mem_cons, List.not_mem_nil, or_false, or_self] at ht
    have hall : ∀ t ∈ [3, 3, 22, 3], Try.prog.readableRec t = true ∧ t < Try.prog.types.size := by
      intro t ht
      simp only [List.mem_cons, List.not_mem_nil, or_false] at ht
      rcases ht with rfl | rfl | rfl | rfl <;> exact ⟨by kernel_rfl, of_decide_eq_true (by kernel_rfl)⟩
    exact hall t (by simp only [List.mem_cons, List.not_mem_nil, or_false]; first | omega | exact ht | grind)
  · intro W base args ds ps hval0 hA0 hl0
    have hval : ∀ (j : Nat) t v, Try.f5.params[j]? = some t → args[j]? = some v → Value.okWide Try.prog W .any base t v := hval0
    have hA : DataW.TrodAll enc Try.prog W 0 (fun _ => true) true Try.f5.params.toList args.toList ds ps := hA0
    have hl : ∀ (j : Nat) t d, Try.f5.params.toList[j]? = some t → ds[j]? = some d → light Try.prog t d := hl0
    clear hval0 hA0 hl0
    rw [Try.params5] at hA hval hl
    obtain ⟨v0, vs0, d0, ds0, p0, q0, hv0, hd0, _, h0, hA0⟩ := trodAll_cons hA
    obtain ⟨v1, vs1, d1, ds1, p1, q1, hv1, hd1, _, h1, hA1⟩ := trodAll_cons hA0
    obtain ⟨v2, vs2, d2, ds2, p2, q2, hv2, hd2, _, h2, hA2⟩ := trodAll_cons hA1
    obtain ⟨v3, vs3, d3, ds3, p3, q3, hv3, hd3, _, h3, hA3⟩ := trodAll_cons hA2
    obtain ⟨hn, hm, _⟩ := trodAll_nil hA3
    subst hn hm
    subst hv3 hd3
    subst hv2 hd2
    subst hv1 hd1
    obtain rfl : args = #[v0, v1, v2, v3] := Array.toList_inj.1 hv0
    subst hd0
    obtain ⟨z0, rfl, hz0⟩ := open_int (hval 0 3 v0 rfl rfl) h0 (hl 0 3 d0 rfl rfl)
    obtain ⟨z1, rfl, hz1⟩ := open_int (hval 1 3 v1 rfl rfl) h1 (hl 1 3 d1 rfl rfl)
    obtain ⟨z2, hz2⟩ := open_sl_Ev (hval 2 22 v2 rfl rfl) h2 (hl 2 22 d2 rfl rfl)
    obtain ⟨z3, rfl, hz3⟩ := open_int (hval 3 3 v3 rfl rfl) h3 (hl 3 3 d3 rfl rfl)
    exact C_BufferPlays hz0 hz1 hz2 hz3

theorem plays_holds : Rows.BufferPlaysSaid :=
  OpenClaim.holds_of_wide 5 Try.f5 rfl rfl rfl rfl rfl rfl rfl ⟨rfl, rfl, rfl, rfl, rfl⟩ rfl rfl rfl rfl rfl (by kernel_rfl) Try.func5 (by kernel_rfl)
    (of_decide_eq_true (by kernel_rfl)) (by unfold Func.isWrapper; first | (rw [if_pos (by decide +kernel)]; kernel_rfl) | (rw [if_neg (by decide +kernel)]; exact ⟨rfl, rfl⟩))
    (fun os started H enc _ => plays_lifted os started H enc)

#print axioms plays_holds
end Go.Proofs.Ytmiihhbeclhaoaa
