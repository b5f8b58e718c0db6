import Derived.Test.YtbcdijeggfoabaaGreatDoorW5
import Derived.Test.YtbcdijeggfoabaaGreatDoorTie
import Derived.Test.YtbcdijeggfoabaaGreatDoorCards
import Derived.SevenTiedAt
import Derived.Test.YtbcdijeggfoabaaGreatDoorW13
/- The law ValidAnswers: whatever its arguments, it returns true, and each argument reads afterwards as it read before. No condition. -/
namespace Go.Proofs.YtbcdijeggfoabaaGreatDoor
open Go.ChangeShapes Go.WideShapes Go.ChangeAt Go.RowKit

set_option maxRecDepth 100000 in
theorem Wx (os : Os) (started : os.Started) (H : Type) (enc : TypeId × Value → H) :
    ReturnsInHanded {} Tryz.checked os 3 .any (fun w args => (Rows.validAnswersSpec.pre enc Tryz.prog Tryz.f3 [] false w args ∧ laidMetH Tryz.prog [("quayside/schema.kinds", Rows.laid_quayside_schema_kinds)] w) ∧ sizedMet enc Tryz.prog Tryz.f3 (OpenSpec.ofChange Rows.validAnswersSpec) false w args) (Rows.validAnswersSpec.post enc Tryz.prog Tryz.f3 false true false false) := by
  refine XO (C := Tryz.checked) (laid := [("quayside/schema.kinds", Rows.laid_quayside_schema_kinds)]) (tb := 4) Tryz.own started (by kernel_rfl) Tryz.func3 Tryz.laidOut rfl Tryz.underlying4 rfl ?_ ?_
    (ChangeSpec.witness_shaped (enc := enc) (C := Tryz.checked) (os := os) (X := fun w _ => laidMetH Tryz.prog [("quayside/schema.kinds", Rows.laid_quayside_schema_kinds)] w) false (World.doorLaid Tryz.prog 14 os) #[.agg (Dcl.cells ⟨[], []⟩ (.slice none 0 0) (.slice none 0 0)).toArray, .int .i64 0, .slice none 0 0, .int .i64 0, .int .i64 0, .slice none 0 0] 8 rfl (World.shaped_of_RefB (by kernel_rfl) (by kernel_rfl)) (by kernel_rfl) (by kernel_rfl) (by kernel_rfl) (zaJ os _)) ?_
  · intro ds hd
    have h3 : ds.length = 6 := hd
    match ds, h3 with
    | [z0, z1, z2, z3, z4, z5], _ => rfl
  · intro t ht
    rw [Tryz.params3] at ht
    simp only [List.mem_cons, List.not_mem_nil, or_false, or_self] at ht
    have hall : ∀ t ∈ [25, 3, 26, 3, 3, 27], Tryz.prog.readableRec t = true ∧ t < Tryz.prog.types.size := by
      intro t ht
      simp only [yt] at ht
      rcases ht with rfl | rfl | rfl | rfl | rfl | rfl <;> exact ⟨by kernel_rfl, of_decide_eq_true (by kernel_rfl)⟩
    exact hall t (by simp only [yt]; first | omega | exact ht | grind)
  · intro W base args ds ps hval0 hA0 hl0 hL0
    have hval : ∀ (j : Nat) t v, Tryz.f3.params[j]? = some t → args[j]? = some v → Value.okWide Tryz.prog W .any base t v := hval0
    have hA : DataW.TrodAll enc Tryz.prog W 0 (fun _ => true) true Tryz.f3.params.toList args.toList ds ps := hA0
    have hl : ∀ (j : Nat) t d, Tryz.f3.params.toList[j]? = some t → ds[j]? = some d → Ye Tryz.prog t d := hl0
    clear hval0 hA0 hl0
    rw [Tryz.params3] at hA hval hl
    obtain ⟨v0, vs0, d0, ds0, p0, q0, hv0, hd0, _, h0, hA0⟩ := trodAll_cons hA
    obtain ⟨v1, vs1, d1, ds1, p1, q1, hv1, hd1, _, h1, hA1⟩ := trodAll_cons hA0
    obtain ⟨v2, vs2, d2, ds2, p2, q2, hv2, hd2, _, h2, hA2⟩ := trodAll_cons hA1
    obtain ⟨v3, vs3, d3, ds3, p3, q3, hv3, hd3, _, h3, hA3⟩ := trodAll_cons hA2
    obtain ⟨v4, vs4, d4, ds4, p4, q4, hv4, hd4, _, h4, hA4⟩ := trodAll_cons hA3
    obtain ⟨v5, vs5, d5, ds5, p5, q5, hv5, hd5, _, h5, hA5⟩ := trodAll_cons hA4
    obtain ⟨hn, hm, _⟩ := trodAll_nil hA5
    subst hn hm
    subst hv5 hd5
    subst hv4 hd4
    subst hv3 hd3
    subst hv2 hd2
    subst hv1 hd1
    obtain rfl : args = #[v0, v1, v2, v3, v4, v5] := Array.toList_inj.1 hv0
    subst hd0
    obtain ⟨z0, z0d0, z0d1, rfl, z0h0, z0h1, hz0⟩ := Uk (hval 0 25 v0 rfl rfl) h0 (hl 0 25 d0 rfl rfl)
    obtain ⟨z1, rfl, hz1⟩ := Wy (hval 1 3 v1 rfl rfl) h1 (hl 1 3 d1 rfl rfl)
    obtain ⟨z2, hz2⟩ := QS (hval 2 26 v2 rfl rfl) h2 (hl 2 26 d2 rfl rfl)
    obtain ⟨z3, rfl, hz3⟩ := Wy (hval 3 3 v3 rfl rfl) h3 (hl 3 3 d3 rfl rfl)
    obtain ⟨z4, rfl, hz4⟩ := Wy (hval 4 3 v4 rfl rfl) h4 (hl 4 3 d4 rfl rfl)
    obtain ⟨z5, hz5⟩ := UY (hval 5 27 v5 rfl rfl) h5 (hl 5 27 d5 rfl rfl)
    exact WB z0h0 z0h1 hz0 hz1 hz2 hz3 hz4 hz5 (JH hL0)

theorem Vf : Rows.ValidAnswersSaid :=
  OpenClaim.holds_of_wide 3 Tryz.f3 rfl rfl rfl rfl rfl rfl rfl ⟨rfl, rfl, rfl, rfl, rfl⟩ rfl rfl rfl rfl rfl (by kernel_rfl) Tryz.func3 (by kernel_rfl)
    (of_decide_eq_true (by kernel_rfl)) (by unfold Func.isWrapper; first | (rw [if_pos (by decide +kernel)]; kernel_rfl) | (rw [if_neg (by decide +kernel)]; exact ⟨rfl, rfl⟩))
    (fun os started H enc _ => Wx os started H enc)

theorem answers_card : Rows.ValidAnswersCardSaid :=
  Claim7.holds_tied_plain_at .later [] [.data] true (true, "88a6ab59fa8c987b54ebf39e5b78cdd662411d7ebd0b92ec1823ad23cd5ec19c") false
    Vf (fun _ h => by cases h) (by kernel_rfl) (fun _ h => by cases h) validAnswers_row_tie rfl ⟨rfl, rfl⟩ (by kernel_rfl) rfl
    (fun f fn hf hfn => by
      obtain rfl : f = 3 := Option.some.inj ((show Tryz.prog.funcNamed Rows.validAnswersRow.func = some 3 by kernel_rfl).symm.trans hf) |>.symm
      obtain rfl : fn = Tryz.f3 := (Option.some.inj (Tryz.func3.symm.trans hfn)).symm
      exact ⟨by kernel_rfl, fun j t ht => by
        rw [Tryz.params3] at ht
        have hm : t ∈ [25, 3, 26, 3, 3, 27] := by simpa using Array.mem_of_getElem? ht
        have hall : ([25, 3, 26, 3, 3, 27].all fun u => !Tryz.prog.wantsStandIn u) = true := by kernel_rfl
        exact (show Tryz.prog.wantsStandIn t = false by simpa using List.all_eq_true.1 hall t hm)⟩)
    (by kernel_rfl)

#print axioms answers_card
end Go.Proofs.YtbcdijeggfoabaaGreatDoor
