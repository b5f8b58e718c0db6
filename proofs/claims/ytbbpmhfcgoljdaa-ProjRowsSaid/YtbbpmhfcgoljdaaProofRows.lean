/- The law ProjRows: whatever its arguments, it returns true, and each argument reads afterwards as it read before. No condition. -/
import Derived.Test.YtbbpmhfcgoljdaaArgs
import Derived.Test.YtbbpmhfcgoljdaaS4
namespace Go.Proofs.Ytbbpmhfcgoljdaa
open Go.ChangeShapes Go.WideShapes Go.ChangeAt Go.RowKit

set_option maxRecDepth 100000 in
theorem rows_lifted (os : Os) (started : os.Started) (H : Type) (enc : TypeId × Value → H) :
    ReturnsInHanded {} Try.checked os 7 .any (Rows.projRowsSpec.pre6 enc Try.prog Try.f7 Rows.projRowsRow.domain false) (Rows.projRowsSpec.post enc Try.prog Try.f7 false true false false) := by
  refine law_lifted (C := Try.checked) (tb := 4) Try.own started (by kernel_rfl) Try.func7 Try.laidOut rfl Try.underlying4 rfl ?_ ?_
    (ChangeSpec.witness6 (enc := enc) (C := Try.checked) false ⟨#[], #[.agg (Prj.cells ⟨0, 0, 0, 0, 0⟩).toArray, .slice none 0 0, .slice none 0 0, .int .i64 0], []⟩ 8 (by kernel_rfl) (by kernel_rfl) (by kernel_rfl) (by kernel_rfl)) ?_
  · intro ds hd
    have h3 : ds.length = 4 := hd
    match ds, h3 with
    | [a, b, c, d], _ => rfl
  · intro t ht
    rw [Try.params7] at ht
    simp only [List.mem_cons, List.not_mem_nil, or_false, or_self] at ht
    rcases ht with rfl | rfl | rfl | rfl <;> exact ⟨by kernel_rfl, of_decide_eq_true (by kernel_rfl)⟩
  · intro W base args ds ps hval0 hA0 hl0
    have hval : ∀ (j : Nat) t v, Try.f7.params[j]? = some t → args[j]? = some v → Value.okWide Try.prog W .any base t v := hval0
    have hA : DataW.TrodAll enc Try.prog W 0 (fun _ => true) true Try.f7.params.toList args.toList ds ps := hA0
    have hl : ∀ (j : Nat) t d, Try.f7.params.toList[j]? = some t → ds[j]? = some d → light Try.prog t d := hl0
    clear hval0 hA0 hl0
    rw [Try.params7] at hA hval hl
    obtain ⟨v0, vs0, d0, ds0, p0, q0, hv0, hd0, _, h0, hA0⟩ := trodAll_cons hA
    obtain ⟨v1, vs1, d1, ds1, p1, q1, hv1, hd1, _, h1, hA1⟩ := trodAll_cons hA0
    obtain ⟨v2, vs2, d2, ds2, p2, q2, hv2, hd2, _, h2, hA2⟩ := trodAll_cons hA1
    obtain ⟨v3, vs3, d3, ds3, p3, q3, hv3, hd3, _, h3, hA3⟩ := trodAll_cons hA2
    obtain ⟨hn, hm, _⟩ := trodAll_nil hA3
    subst hn hm
    subst hv3 hd3
    subst hv2 hd2
    subst hv1 hd1
    obtain rfl : args = #[v0, v1, v2, v3] := Array.toList_inj.1 hv0
    subst hd0
    obtain ⟨a, rfl, ha⟩ := open_prj (hval 0 23 v0 rfl rfl) h0 (hl 0 23 d0 rfl rfl)
    obtain ⟨b, hb⟩ := open_ents (hval 1 24 v1 rfl rfl) h1 (hl 1 24 d1 rfl rfl)
    obtain ⟨c, hc⟩ := open_ints (hval 2 25 v2 rfl rfl) h2 (hl 2 25 d2 rfl rfl)
    obtain ⟨d, rfl, hd⟩ := open_int (hval 3 3 v3 rfl rfl) h3 (hl 3 3 d3 rfl rfl)
    exact C_ProjRows ha hb hc hd

theorem rows_holds : Rows.ProjRowsSaid :=
  OpenClaim.holds_of_wide 7 Try.f7 rfl rfl rfl rfl rfl rfl rfl ⟨rfl, rfl, rfl, rfl, rfl⟩ rfl rfl rfl rfl rfl (by kernel_rfl) Try.func7 (by kernel_rfl)
    (of_decide_eq_true (by kernel_rfl)) (by unfold Func.isWrapper; first | (rw [if_pos (by decide +kernel)]; kernel_rfl) | (rw [if_neg (by decide +kernel)]; exact ⟨rfl, rfl⟩))
    (fun os started H enc _ => rows_lifted os started H enc)

#print axioms rows_holds
end Go.Proofs.Ytbbpmhfcgoljdaa
