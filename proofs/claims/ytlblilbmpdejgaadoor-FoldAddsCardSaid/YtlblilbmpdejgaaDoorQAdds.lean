import Derived.Test.YtlblilbmpdejgaaDoorT5
import Derived.Test.YtlblilbmpdejgaaDoorTie
import Derived.Test.YtlblilbmpdejgaaDoorCards
import Derived.SevenTiedAt
import Derived.Test.YtlblilbmpdejgaaDoorT12
/- The law FoldAdds: whatever its arguments, it returns true, and each argument reads afterwards as it read before. No condition. -/
namespace Go.Proofs.YtlblilbmpdejgaaDoor
open Go.ChangeShapes Go.WideShapes Go.ChangeAt Go.RowKit

set_option maxRecDepth 100000 in
theorem WO (os : Os) (started : os.Started) (H : Type) (enc : TypeId × Value → H) :
    ReturnsInHanded {} Tryd.checked os 4 .any (fun w args => (Rows.foldAddsSpec.pre enc Tryd.prog Tryd.f4 [] false w args ∧ laidMetH Tryd.prog [("quayside/schema.kinds", Rows.laid_quayside_schema_kinds)] w) ∧ sizedMet enc Tryd.prog Tryd.f4 (OpenSpec.ofChange Rows.foldAddsSpec) false w args) (Rows.foldAddsSpec.post enc Tryd.prog Tryd.f4 false true false false) := by
  refine YC (C := Tryd.checked) (laid := [("quayside/schema.kinds", Rows.laid_quayside_schema_kinds)]) (tb := 4) Tryd.own started (by kernel_rfl) Tryd.func4 Tryd.laidOut rfl Tryd.underlying4 rfl ?_ ?_
    (ChangeSpec.witness_shaped (enc := enc) (C := Tryd.checked) (os := os) (X := fun w _ => laidMetH Tryd.prog [("quayside/schema.kinds", Rows.laid_quayside_schema_kinds)] w) false (World.doorLaid Tryd.prog 14 os) #[.agg (Dcl.cells ⟨[], []⟩ (.slice none 0 0) (.slice none 0 0)).toArray, .int .i64 0, .slice none 0 0] 8 rfl (World.shaped_of_RefB (by kernel_rfl) (by kernel_rfl)) (by kernel_rfl) (by kernel_rfl) (by kernel_rfl) (Qb os _)) ?_
  · intro ds hd
    have h3 : ds.length = 3 := hd
    match ds, h3 with
    | [z0, z1, z2], _ => rfl
  · intro t ht
    rw [Tryd.params4] at ht
    simp only [List.mem_cons, List.not_mem_nil, or_false, or_self] at ht
    have hall : ∀ t ∈ [25, 3, 47], Tryd.prog.readableRec t = true ∧ t < Tryd.prog.types.size := by
      intro t ht
      simp only [List.mem_cons, List.not_mem_nil, or_false] at ht
      rcases ht with rfl | rfl | rfl <;> exact ⟨by kernel_rfl, of_decide_eq_true (by kernel_rfl)⟩
    exact hall t (by simp only [List.mem_cons, List.not_mem_nil, or_false]; first | omega | exact ht | grind)
  · intro W base args ds ps hval0 hA0 hl0 hL0
    have hval : ∀ (j : Nat) t v, Tryd.f4.params[j]? = some t → args[j]? = some v → Value.okWide Tryd.prog W .any base t v := hval0
    have hA : DataW.TrodAll enc Tryd.prog W 0 (fun _ => true) true Tryd.f4.params.toList args.toList ds ps := hA0
    have hl : ∀ (j : Nat) t d, Tryd.f4.params.toList[j]? = some t → ds[j]? = some d → Zs Tryd.prog t d := hl0
    clear hval0 hA0 hl0
    rw [Tryd.params4] at hA hval hl
    obtain ⟨v0, vs0, d0, ds0, p0, q0, hv0, hd0, _, h0, hA0⟩ := trodAll_cons hA
    obtain ⟨v1, vs1, d1, ds1, p1, q1, hv1, hd1, _, h1, hA1⟩ := trodAll_cons hA0
    obtain ⟨v2, vs2, d2, ds2, p2, q2, hv2, hd2, _, h2, hA2⟩ := trodAll_cons hA1
    obtain ⟨hn, hm, _⟩ := trodAll_nil hA2
    subst hn hm
    subst hv2 hd2
    subst hv1 hd1
    obtain rfl : args = #[v0, v1, v2] := Array.toList_inj.1 hv0
    subst hd0
    obtain ⟨z0, z0d0, z0d1, rfl, z0h0, z0h1, hz0⟩ := XW (hval 0 25 v0 rfl rfl) h0 (hl 0 25 d0 rfl rfl)
    obtain ⟨z1, rfl, hz1⟩ := Qq (hval 1 3 v1 rfl rfl) h1 (hl 1 3 d1 rfl rfl)
    obtain ⟨z2, hz2⟩ := Vw (hval 2 47 v2 rfl rfl) h2 (hl 2 47 d2 rfl rfl)
    exact VD z0h0 z0h1 hz0 hz1 hz2 (Uw hL0)

theorem Vd : Rows.FoldAddsSaid :=
  OpenClaim.holds_of_wide 4 Tryd.f4 rfl rfl rfl rfl rfl rfl rfl ⟨rfl, rfl, rfl, rfl, rfl⟩ rfl rfl rfl rfl rfl (by kernel_rfl) Tryd.func4 (by kernel_rfl)
    (of_decide_eq_true (by kernel_rfl)) (by unfold Func.isWrapper; first | (rw [if_pos (by decide +kernel)]; kernel_rfl) | (rw [if_neg (by decide +kernel)]; exact ⟨rfl, rfl⟩))
    (fun os started H enc _ => WO os started H enc)

theorem adds_card : Rows.FoldAddsCardSaid :=
  Claim7.holds_tied_plain_at .later [] [.data] true (true, "813f66fb7fb397c704ad7d46d6795482353df011d17e58d115846a2b1024b68c") false
    Vd (fun _ h => by cases h) (by kernel_rfl) (fun _ h => by cases h) foldAdds_row_tie rfl ⟨rfl, rfl⟩ (by kernel_rfl) rfl
    (fun f fn hf hfn => by
      obtain rfl : f = 4 := Option.some.inj ((show Tryd.prog.funcNamed Rows.foldAddsRow.func = some 4 by kernel_rfl).symm.trans hf) |>.symm
      obtain rfl : fn = Tryd.f4 := (Option.some.inj (Tryd.func4.symm.trans hfn)).symm
      exact ⟨by kernel_rfl, fun j t ht => by
        rw [Tryd.params4] at ht
        have hm : t ∈ [25, 3, 47] := by simpa using Array.mem_of_getElem? ht
        have hall : ([25, 3, 47].all fun u => !Tryd.prog.wantsStandIn u) = true := by kernel_rfl
        exact (show Tryd.prog.wantsStandIn t = false by simpa using List.all_eq_true.1 hall t hm)⟩)
    (by kernel_rfl)

#print axioms adds_card
end Go.Proofs.YtlblilbmpdejgaaDoor
