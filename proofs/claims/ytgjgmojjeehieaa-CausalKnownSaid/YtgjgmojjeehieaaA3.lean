/- Steps of the proofs of this seat: part A3. -/
import Derived.Test.YtgjgmojjeehieaaA2
set_option linter.unusedSimpArgs false
set_option linter.unusedVariables false
set_option maxRecDepth 8000
set_option maxHeartbeats 4000000
namespace Go.Proofs.Ytgjgmojjeehieaa
open Go.Proofs Go.RowKit

/-- Whether some number is below 0. -/
def negL (l : List Int) : Bool := l.any (fun x => decide (x < 0))
theorem negL_iff {l : List Int} : negL l = false ↔ ∀ i, i < l.length → 0 ≤ l.getD i 0 := by
  unfold negL
  rw [List.any_eq_false]
  constructor
  · intro h i hi
    have := h l[i] (List.getElem_mem hi)
    rw [getD_at 0 hi]
    simpa using this
  · intro h x hx
    obtain ⟨i, hi, rfl⟩ := List.getElem_of_mem hx
    have := h i hi
    rw [getD_at 0 hi] at this
    simpa using this
theorem neg_dec {l : List Int} {c : Int} (h : c < 0 ↔ negL l = false) : decide (0 ≤ c) = negL l := by
  cases hb : negL l
  · exact decide_eq_false (by have := h.2 hb; omega)
  · refine decide_eq_true ?_
    rcases Int.lt_or_le c 0 with h1 | h1
    · rw [h.1 h1] at hb; cases hb
    · exact h1
theorem D_containsNeg {G : Nat → Prop} {W w : World} {Rs : List HP} {vl : Value} {l : List Int} (hl : RdS W G vl l)  (hS0 : Sep G W Rs w) : Ret Try.prog 80 [vl, .func (.func 79) #[] #[]] w (fun r w' => r = (.bool ((negL l)) : Value) ∧ Sep G W Rs w') := by
 have hls : l.length * 8 ≤ 140737488355328 := hl.small
 refine Calls_of_WP (args := [vl, .func (.func 79) #[] #[]]) Try.func80 rfl rfl ?_
 refine WP_seq ?_
 refine WP_region0 (by kernel_rfl) (fun _ => ?_)
 refine st (ov_assign (v := .bool false) rfl ?_)
 refine st_nil ?_
 refine WP_seq ?_
 refine WP_region0 (by kernel_rfl) (fun _ => ?_)
 refine st (ov_move (v := vl) rfl ?_)
 refine st (ov_move (v := .func (.func 79) #[] #[]) rfl ?_)
 refine st (ov_call (f := 86) (vals := [vl, .func (.func 79) #[] #[]]) (cap := []) (show _ = (.func (.func 86) #[] #[] : Value) from rfl) rfl Try.call86 (D_indexNeg (l := l) (vl := vl) hl hS0) ?_)
 rintro _ w4 ⟨c1, rfl, hc92, hcn3, hS5⟩
 refine st (ov_geq (k := .i64) (a := c1) (b := 0) rfl rfl ?_)
 refine st (ov_assign (v := .bool (decide (0 ≤ c1))) rfl ?_)
 refine st_nil ?_
 refine WP_ret ?_
 refine fin1 Try.results80 (show _ = (.bool (decide (0 ≤ c1)) : Value) from rfl) ?_
 refine ⟨?_, hS5⟩
 congr 1
 exact neg_dec (hcn3.trans negL_iff.symm)

end Go.Proofs.Ytgjgmojjeehieaa
