/- Steps of the proofs of this seat: part A10. -/
import Derived.Test.YtgjgmojjeehieaaA9
import Derived.Test.YtgjgmojjeehieaaIter
set_option linter.unusedSimpArgs false
set_option linter.unusedVariables false
set_option maxRecDepth 8000
set_option maxHeartbeats 4000000
namespace Go.Proofs.Ytgjgmojjeehieaa
open Go.Proofs Go.RowKit

section
variable {G : Nat → Prop} {W w : World} {Rs : List HP}
theorem D_vals {l bm m clock : Nat} {es : Array MapEntry} {rec : Loop} {p : Tmp} {A : List Nat → HP} (hG : G m) (hm : W.heap[m]? = some (.map es clock)) (hs : MapKept.Stamped es clock) (hp : rec.params = #[p])
    (hval : ∀ j (hj : j < es.toList.length), ∃ (x : Ev) (vd : Value), es.toList[j].val = .agg (x.cells vd).toArray ∧ vd.oneCell' = true)
    (hY : ∀ idx j (hj : j < es.toList.length) (v : Value) (Fr : List HP) (w : World), es.toList[j].val = v → idx.length < es.size → (idx ++ [j]).Nodup → Sep G W (A idx :: ObjAt l (.loop rec) :: Fr) w → RoundIn (FR none) 0 Try.prog l rec.fn ((#[p].zip #[v]).foldl (fun t (p, v) => t.setIfInBounds p v) rec.tmps) rec.assign rec.body w (fun e w' => e = .returned (.bool true) ∧ Sep G W (A (idx ++ [j]) :: ObjAt l (.loop rec) :: Fr) w'))
    (hS0 : Sep G W (A [] :: ObjAt l (.loop rec) :: Blk bm #[.map (some m)] 71 :: Rs) w) :
    Ret Try.prog 81 [.func (.yield l) #[] #[], .pointer (some ⟨bm, 0, none⟩)] w (fun r w' => ∃ idx, List.Perm idx (List.range es.size) ∧ Sep G W (A idx :: ObjAt l (.loop rec) :: Blk bm #[.map (some m)] 71 :: Rs) w') := by
  refine Calls_of_WP (args := [.func (.yield l) #[] #[], .pointer (some ⟨bm, 0, none⟩)]) Try.func81 rfl rfl ?_
  refine WP_seq ?_
  refine WP_region0 (by kernel_rfl) (fun _ => ?_)
  refine st (ov_load1 (v := .map (some m)) Try.isAgg71 rfl (blk_cellL (hS0.blk (i := 2) rfl) rfl) ?_)
  refine st (ov_rangeO hS0 hG hm Try.underlying71 rfl ?_)
  intro w1 it hS1
  refine st_nil ?_
  refine WP_block ?_
  refine WP_loop (fun mq σ wq => ∃ (idx : List Nat) (ρ : Env), mq = es.size - idx.length ∧ σ = setAll ρ [(0, .func (.yield l) #[] #[]), (6, .pointer (some ⟨it, 0, none⟩))] ∧ Sep G W (IterO it m es clock idx :: A idx :: ObjAt l (.loop rec) :: Blk bm #[.map (some m)] 71 :: Rs) wq) ⟨[], _, rfl, setAll_self ⟨rfl, rfl, trivial⟩, hS1⟩ ?_
  rintro _ _ w2 ⟨idx, ρ, rfl, rfl, hS2⟩
  refine WP_seq ?_
  refine WP_region0 (by kernel_rfl) (fun _ => ?_)
  refine st (ov_nextO hS2 hG hm hs rfl ?_ ?_)
  · intro hperm
    refine st (ov_extract (vs := [.bool false]) (i := 0) (v := .bool false) rfl rfl ?_)
    refine st_nil ?_
    refine WP_seq ?_
    refine WP_cond_f rfl ?_
    refine WP_exit ?_
    refine blk_exit ?_
    refine fin0 Try.results81 ?_
    exact ⟨idx, hperm, hS2.sel 4 [1, 2, 3] (Nat.le_add_left _ _) rfl rfl⟩
  · intro w3 j hj hlt hnd hS3 u v
    have hj' : j < es.toList.length := by simpa using hj
    obtain ⟨x, vd, hcv, hone⟩ := hval j hj'
    refine st (ov_extract (vs := [.bool true, u, v]) (i := 0) (v := .bool true) rfl rfl ?_)
    refine st_nil ?_
    refine WP_seq ?_
    refine WP_cond_t rfl ?_
    refine WP_skip ?_
    refine WP_block ?_
    refine WP_seq ?_
    refine WP_region0 (by kernel_rfl) (fun _ => ?_)
    refine st (ov_entryO hS3 hG hm hs rfl hj' hcv ?_)
    refine st (ov_extract (vs := [es.toList[j].key, .agg (x.cells vd).toArray]) (i := 1) (v := .agg (x.cells vd).toArray) rfl rfl ?_)
    refine st (ov_alloc Try.zeroValue36 ?_)
    intro w4 b4 hn4
    have hS4 := hS3.new hn4
    refine stn (ov_store (v := .agg (x.cells vd).toArray) (c' := (x.cells vd).toArray) Try.sizeOf36 rfl rfl (hS4.blk (i := 0) rfl) (all1 ⟨rfl, rfl, rfl, hone, rfl, rfl, rfl, rfl, rfl, rfl, trivial⟩) (Nat.le_of_ble_eq_true rfl) rfl ?_)
    intro w5 hp5
    have hS5 := hS4.put (i := 0) rfl hp5
    refine st_nil ?_
    refine WP_seq ?_
    refine WP_of_X (WPX_regionX (by kernel_rfl) ?_)
    refine stXv (ov_move (v := .func (.yield l) #[] #[]) rfl ?_)
    refine stXv (ov_loadk (k := 10) Try.isAgg36 Try.sizeOf36 rfl rfl (CellsAt.all (hS5.blk (i := 0) rfl)) ?_)
    have hS6 : Sep G W (A idx :: ObjAt l (.loop rec) :: Blk bm #[.map (some m)] 71 :: IterO it m es clock (idx ++ [j]) :: Rs) w5 := hS5.sel 5 [2, 3, 4, 1] (Nat.le_add_left _ _) rfl rfl
    refine stX (oX_yield (l := l) (rec := rec) (p := p) (v := .agg (x.cells vd).toArray) rfl rfl (hS6.obj (i := 1) rfl) hp ?_)
    refine RoundIn.mono (hY idx j hj' _ _ _ hcv hlt hnd hS6) ?_
    rintro e w6 ⟨rfl, hS7⟩
    refine ⟨_, rfl, ?_⟩
    refine stXv (ov_not (a := true) rfl ?_)
    refine stX_nil ?_
    refine WP_cond_f rfl ?_
    refine WP_skip ?_
    exact ⟨_, by simp; omega, idx ++ [j], _, rfl, setAll_self ⟨rfl, rfl, trivial⟩, hS7.sel 4 [3, 0, 1, 2] (Nat.le_add_left _ _) rfl rfl⟩
end
end Go.Proofs.Ytgjgmojjeehieaa
