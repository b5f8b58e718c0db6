/- Steps of the proofs of this seat: part C15. -/
import Derived.Test.YtlblilbmpdejgaaDoorC14
set_option linter.unusedSimpArgs false
set_option linter.unusedVariables false
set_option maxRecDepth 8000
set_option maxHeartbeats 4000000
namespace Go.Proofs.YtlblilbmpdejgaaDoor
open Go.Proofs Go.RowKit

theorem cel_ext {a b : Cel} (h1 : a.n = b.n) (h2 : a.set = b.set) : a = b := by cases a; cases b; simp_all
theorem mem_getD {l : List Int} {k : Nat} {n : Int} (hk : k < l.length) (h : l.getD k 0 = n) : n ∈ l := by rw [getD_at _ hk] at h; rw [← h]; exact List.getElem_mem hk
theorem not_mem_getD {l : List Int} {n : Int} (h : ∀ i, i < l.length → ¬ l.getD i 0 = n) : ¬ n ∈ l := by
  intro hm
  obtain ⟨i, hi, e⟩ := List.getElem_of_mem hm
  exact h i hi (by rw [getD_at _ hi]; exact e)
theorem D_New {G : Nat → Prop} {W w : World} {Rs : List HP} {t : Typ} {dt0 : Value} (hdt0 : RdS W G dt0 t.fields) (ot : t.Ok) (hS0 : Sep G W Rs w) : Ret Tryd.prog 48 [.agg (t.cells dt0).toArray] w (fun r w' => ∃ (v : Value), r = (v : Value) ∧ Sep G W ((RowE (α := Cel) own 42 v (List.replicate t.fields.length (⟨0, []⟩ : Cel))) :: Rs) w') := by
 have hdt0s : t.fields.length * 48 ≤ 140737488355328 := hdt0.small
 refine Calls_of_WP (args := [.agg (t.cells dt0).toArray]) Tryd.func48 rfl rfl ?_
 refine WP_seq ?_
 refine WP_region0 (by kernel_rfl) (fun _ => ?_)
 refine st (ov_box (v := .agg (t.cells dt0).toArray) rfl ?_)
 intro w3 b2 hn1
 have hS4 : Sep G W ((Blk b2 (t.cells dt0).toArray 33) :: Rs) w3 := hS0.new hn1
 refine st (ov_assign (v := (.slice none 0 0)) rfl ?_)
 refine st_nil ?_
 refine WP_seq ?_
 refine WP_region0 (by kernel_rfl) (fun _ => ?_)
 refine st (fd33_0 rfl ?_)
 refine st (ov_load1 (v := dt0) Tryd.isAgg31 rfl (blk_cellL (hS4.blk (i := 0) rfl) rfl) ?_)
 refine st (ov_len (n := t.fields.length) Tryd.underlying31 rfl hdt0.sl ?_)
 refine st (ov_makeSlice (α := Cel) (T := 42) (bytes := 32) (n := t.fields.length) (x1 := (⟨0, []⟩ : Cel)) Tryd.underlying26 ⟨_, _, rfl, rfl, rfl, rfl, rfl, fun _ _ => ⟨_, rfl, RdS.nil _ _, ⟨by decide⟩⟩⟩ rfl rfl rfl (by show t.fields.length * 32 ≤ 140737488355328; omega) ?_)
 intro w10 b5 hx6 he7 hl8 ho9
 have hS11 : Sep G W ((RowE (α := Cel) own 42 (.slice (some ⟨b5, 0, none⟩) t.fields.length t.fields.length) (List.replicate t.fields.length (⟨0, []⟩ : Cel))) :: (Blk b2 (t.cells dt0).toArray 33) :: Rs) w10 := hS4.made hx6 ho9
 have hr12 := hS11.row (i := 0) rfl
 have hr12s : (List.replicate t.fields.length (⟨0, []⟩ : Cel)).length * 32 ≤ 140737488355328 := hr12.2
 refine st (ov_assign (v := (.slice (some ⟨b5, 0, none⟩) t.fields.length t.fields.length)) rfl ?_)
 refine st_nil ?_
 refine WP_ret ?_
 refine fin1 Tryd.results48 (show _ = ((.slice (some ⟨b5, 0, none⟩) t.fields.length t.fields.length) : Value) from rfl) ?_
 have hS13 : Sep G W ((RowE (α := Cel) own 42 (.slice (some ⟨b5, 0, none⟩) t.fields.length t.fields.length) (List.replicate t.fields.length (⟨0, []⟩ : Cel))) :: Rs) w10 := hS11.sel 2 [0] (Nat.le_add_left _ _) rfl rfl
 refine ⟨(.slice (some ⟨b5, 0, none⟩) t.fields.length t.fields.length), rfl, hS13⟩

end Go.Proofs.YtlblilbmpdejgaaDoor
