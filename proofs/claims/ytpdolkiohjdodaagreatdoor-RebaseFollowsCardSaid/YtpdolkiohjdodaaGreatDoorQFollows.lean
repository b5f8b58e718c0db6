import Derived.Test.YtpdolkiohjdodaaGreatDoorL5
import Derived.Test.YtpdolkiohjdodaaGreatDoorTie
import Derived.Test.YtpdolkiohjdodaaGreatDoorCards
import Derived.SevenTiedAt
import Derived.Test.YtpdolkiohjdodaaGreatDoorL13
/- The law RebaseFollows: whatever its arguments, it returns true, and each argument reads afterwards as it read before. No condition. -/
namespace Go.Proofs.YtpdolkiohjdodaaGreatDoor
open Go.ChangeShapes Go.WideShapes Go.ChangeAt Go.RowKit

set_option maxRecDepth 100000 in
theorem Vb (os : Os) (started : os.Started) (H : Type) (enc : TypeId × Value → H) :
    ReturnsInHanded {} Tryz.checked os 3 .any (fun w args => (Rows.rebaseFollowsSpec.pre enc Tryz.prog Tryz.f3 [] false w args ∧ laidMetH Tryz.prog [("quayside/schema.kinds", Rows.laid_quayside_schema_kinds)] w) ∧ sizedMet enc Tryz.prog Tryz.f3 (OpenSpec.ofChange Rows.rebaseFollowsSpec) false w args) (Rows.rebaseFollowsSpec.post enc Tryz.prog Tryz.f3 false true false false) := by
  refine Wt (C := Tryz.checked) (laid := [("quayside/schema.kinds", Rows.laid_quayside_schema_kinds)]) (tb := 4) Tryz.own started (by kernel_rfl) Tryz.func3 Tryz.laidOut rfl Tryz.underlying4 rfl ?_ ?_
    (ChangeSpec.witness_shaped (enc := enc) (C := Tryz.checked) (os := os) (X := fun w _ => laidMetH Tryz.prog [("quayside/schema.kinds", Rows.laid_quayside_schema_kinds)] w) false (World.doorLaid Tryz.prog 14 os) #[.agg (Dcl.cells ⟨[], []⟩ (.slice none 0 0) (.slice none 0 0)).toArray, .int .i64 0, .int .i64 0, .slice none 0 0, .slice none 0 0] 8 rfl (World.shaped_of_RefB (by kernel_rfl) (by kernel_rfl)) (by kernel_rfl) (by kernel_rfl) (by kernel_rfl) (zar os _)) ?_
  · intro ds hd
    have h3 : ds.length = 5 := hd
    match ds, h3 with
    | [z0, z1, z2, z3, z4], _ => rfl
  · intro t ht
    rw [Tryz.params3] at ht
    simp only [List.mem_cons, List.not_mem_nil, or_false, or_self] at ht
    have hall : ∀ t ∈ [25, 3, 3, 26, 27], Tryz.prog.readableRec t = true ∧ t < Tryz.prog.types.size := by
      intro t ht
      simp only [yF] at ht
      rcases ht with rfl | rfl | rfl | rfl | rfl <;> exact ⟨by kernel_rfl, of_decide_eq_true (by kernel_rfl)⟩
    exact hall t (by simp only [yF]; first | omega | exact ht | grind)
  · intro W base args ds ps hval0 hA0 hl0 hL0
    have hval : ∀ (j : Nat) t v, Tryz.f3.params[j]? = some t → args[j]? = some v → Value.okWide Tryz.prog W .any base t v := hval0
    have hA : DataW.TrodAll enc Tryz.prog W 0 (fun _ => true) true Tryz.f3.params.toList args.toList ds ps := hA0
    have hl : ∀ (j : Nat) t d, Tryz.f3.params.toList[j]? = some t → ds[j]? = some d → Yr Tryz.prog t d := hl0
    clear hval0 hA0 hl0
    rw [Tryz.params3] at hA hval hl
    obtain ⟨v0, vs0, d0, ds0, p0, q0, hv0, hd0, _, h0, hA0⟩ := trodAll_cons hA
    obtain ⟨v1, vs1, d1, ds1, p1, q1, hv1, hd1, _, h1, hA1⟩ := trodAll_cons hA0
    obtain ⟨v2, vs2, d2, ds2, p2, q2, hv2, hd2, _, h2, hA2⟩ := trodAll_cons hA1
    obtain ⟨v3, vs3, d3, ds3, p3, q3, hv3, hd3, _, h3, hA3⟩ := trodAll_cons hA2
    obtain ⟨v4, vs4, d4, ds4, p4, q4, hv4, hd4, _, h4, hA4⟩ := trodAll_cons hA3
    obtain ⟨hn, hm, _⟩ := trodAll_nil hA4
    subst hn hm
    subst hv4 hd4
    subst hv3 hd3
    subst hv2 hd2
    subst hv1 hd1
    obtain rfl : args = #[v0, v1, v2, v3, v4] := Array.toList_inj.1 hv0
    subst hd0
    obtain ⟨z0, z0d0, z0d1, rfl, z0h0, z0h1, hz0⟩ := Us (hval 0 25 v0 rfl rfl) h0 (hl 0 25 d0 rfl rfl)
    obtain ⟨z1, rfl, hz1⟩ := Qg (hval 1 3 v1 rfl rfl) h1 (hl 1 3 d1 rfl rfl)
    obtain ⟨z2, rfl, hz2⟩ := Qg (hval 2 3 v2 rfl rfl) h2 (hl 2 3 d2 rfl rfl)
    obtain ⟨z3, hz3⟩ := QW (hval 3 26 v3 rfl rfl) h3 (hl 3 26 d3 rfl rfl)
    obtain ⟨z4, hz4⟩ := UT (hval 4 27 v4 rfl rfl) h4 (hl 4 27 d4 rfl rfl)
    exact Ws z0h0 z0h1 hz0 hz1 hz2 hz3 hz4 (JC hL0)

theorem VC : Rows.RebaseFollowsSaid :=
  OpenClaim.holds_of_wide 3 Tryz.f3 rfl rfl rfl rfl rfl rfl rfl ⟨rfl, rfl, rfl, rfl, rfl⟩ rfl rfl rfl rfl rfl (by kernel_rfl) Tryz.func3 (by kernel_rfl)
    (of_decide_eq_true (by kernel_rfl)) (by unfold Func.isWrapper; first | (rw [if_pos (by decide +kernel)]; kernel_rfl) | (rw [if_neg (by decide +kernel)]; exact ⟨rfl, rfl⟩))
    (fun os started H enc _ => Vb os started H enc)

theorem follows_card : Rows.RebaseFollowsCardSaid :=
  Claim7.holds_tied_plain_at .later [] [.data] true (true, "a9f399040d2a45a851922d101acbc7dd0cbe0dc135db46843e2bf27bb09db207") true
    VC (fun _ h => by cases h) (by kernel_rfl) (fun _ h => by cases h) rebaseFollows_row_tie rfl ⟨rfl, rfl⟩ (by kernel_rfl) rfl
    (fun f fn hf hfn => by
      obtain rfl : f = 3 := Option.some.inj ((show Tryz.prog.funcNamed Rows.rebaseFollowsRow.func = some 3 by kernel_rfl).symm.trans hf) |>.symm
      obtain rfl : fn = Tryz.f3 := (Option.some.inj (Tryz.func3.symm.trans hfn)).symm
      exact ⟨by kernel_rfl, fun j t ht => by
        rw [Tryz.params3] at ht
        have hm : t ∈ [25, 3, 3, 26, 27] := by simpa using Array.mem_of_getElem? ht
        have hall : ([25, 3, 3, 26, 27].all fun u => !Tryz.prog.wantsStandIn u) = true := by kernel_rfl
        exact (show Tryz.prog.wantsStandIn t = false by simpa using List.all_eq_true.1 hall t hm)⟩)
    (by kernel_rfl)

#print axioms follows_card
end Go.Proofs.YtpdolkiohjdodaaGreatDoor
