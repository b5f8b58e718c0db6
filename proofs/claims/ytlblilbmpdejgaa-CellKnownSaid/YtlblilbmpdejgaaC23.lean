/- Steps of the proofs of this seat: part C23. -/
import Derived.Test.YtlblilbmpdejgaaC18
set_option linter.unusedSimpArgs false
set_option linter.unusedVariables false
namespace Go.Proofs.Ytlblilbmpdejgaa
open Go.Proofs Go.RowKit

def nums7 : List Int := [-9223372036854775808, -9223372036854775807, -1, 0, 1, 9223372036854775806, 9223372036854775807]
theorem nums7_len : nums7.length = 7 := rfl
def fld0 : Fld := ⟨1, 1, false, []⟩
def U7 : Typ := ⟨[(⟨1, 1, false, []⟩ : Fld)] ++ List.drop 1 [fld1, fld2, fld3]⟩
def C7 (a : Int) : List Cel := (List.replicate ([(⟨1, 1, false, []⟩ : Fld)] ++ List.drop 1 [fld1, fld2, fld3]).length (⟨0, []⟩ : Cel)).set 0 ⟨a, ((List.replicate ([(⟨1, 1, false, []⟩ : Fld)] ++ List.drop 1 [fld1, fld2, fld3]).length (⟨0, []⟩ : Cel)).getD 0 default).set⟩
theorem ck_key (k j : Nat) (hk : k < 7) (hj : j < 7) : ¬ (¬ nums7.getD j 0 = 0 ∧ ((!decide (mayL U7 (C7 (nums7.getD k 0)) 0 1 (nums7.getD j 0) = 0)) == (decide (0 < nums7.getD k 0) && decide (IntKind.i64.wrap (9223372036854775807 - nums7.getD k 0) < nums7.getD j 0) || decide (nums7.getD k 0 < 0) && decide (nums7.getD j 0 < IntKind.i64.wrap (-9223372036854775808 - nums7.getD k 0)))) = false) := by
  have key : ∀ k, k < 7 → ∀ j, j < 7 → ¬ (¬ nums7.getD j 0 = 0 ∧ ((!decide (mayL U7 (C7 (nums7.getD k 0)) 0 1 (nums7.getD j 0) = 0)) == (decide (0 < nums7.getD k 0) && decide (IntKind.i64.wrap (9223372036854775807 - nums7.getD k 0) < nums7.getD j 0) || decide (nums7.getD k 0 < 0) && decide (nums7.getD j 0 < IntKind.i64.wrap (-9223372036854775808 - nums7.getD k 0)))) = false) := by decide +kernel
  exact key k hk j hj
def setL (k : Nat) : List Cel := [⟨0, []⟩, ⟨0, (List.range k).map (fun i => ((5 * i : Nat) : Int))⟩, ⟨0, []⟩]
theorem set_step (k : Nat) (h : k < 64) : setL (k + 1) = doL (⟨[fld1, fld2, fld3]⟩ : Typ) (setL k) 1 3 ((5 * k : Nat) : Int) := by
  have key : ∀ k, k < 64 → setL (k + 1) = doL (⟨[fld1, fld2, fld3]⟩ : Typ) (setL k) 1 3 ((5 * k : Nat) : Int) := by decide +kernel
  exact key k h
theorem set_may (k : Nat) (h : k < 64) : mayL (⟨[fld1, fld2, fld3]⟩ : Typ) (setL k) 1 3 ((5 * k : Nat) : Int) = 0 := by
  have key : ∀ k, k < 64 → mayL (⟨[fld1, fld2, fld3]⟩ : Typ) (setL k) 1 3 ((5 * k : Nat) : Int) = 0 := by decide +kernel
  exact key k h
theorem set_ask (k : Nat) (h : k < 64) : AskOk (⟨[fld1, fld2, fld3]⟩ : Typ) (setL k) 1 3 ((5 * k : Nat) : Int) := by
  have key : ∀ k, k < 64 → AskOk (⟨[fld1, fld2, fld3]⟩ : Typ) (setL k) 1 3 ((5 * k : Nat) : Int) := by decide +kernel
  exact key k h
theorem set_few (k : Nat) (h : k < 64) : (3 : Int) = 3 → (celAt (setL k) 1).set.length ≤ 1000 := by
  have key : ∀ k, k < 64 → (celAt (setL k) 1).set.length ≤ 1000 := by decide +kernel
  exact fun _ => key k h
theorem el29 : Elem Try.prog 29 36 4 48 := ⟨Try.underlying29, _, _, rfl, rfl, rfl, rfl, rfl⟩
set_option maxHeartbeats 4000000 in
set_option maxRecDepth 20000 in
theorem D_CellKnown {G : Nat → Prop} {W w : World} {Rs : List HP}  (hS0 : Sep G W Rs w) : Ret Try.prog 4 [] w (fun r w' => r = (.bool true : Value) ∧ Sep G W Rs w') := by
  refine Calls_of_WP (args := []) Try.func4 rfl rfl ?_
  refine WP_seq ?_
  refine WP_region0 (by kernel_rfl) (fun _ => ?_)
  refine st (ov_assign (v := .bool false) rfl ?_)
  refine st_nil ?_
  refine WP_seq ?_
  refine WP_region0 (by kernel_rfl) (fun _ => ?_)
  refine st (ov_call (f := 14) (vals := []) (cap := []) (show _ = (.func (.func 14) #[] #[] : Value) from rfl) rfl Try.call14 (D_three  hS0) ?_)
  rintro _ w4 ⟨bt1, bf2, bm3, rfl, hS5⟩
  have hS6 : Sep G W ((Blk bm3 #[.int .i64 (0), .int .i64 (1), .int .i64 (0), .int .i64 (2), .int .i64 (1), .int .i64 (0), .int .i64 ((-1)), .int .i64 (0)] 49) :: (Blk bt1 #[(.slice (some ⟨bf2, 0, none⟩) 3 3)] 31) :: (Blk bf2 #[.int .i64 (1), .int .i64 (1), .bool true, .slice none 0 0, .int .i64 (3), .int .i64 (1), .bool false, .slice none 0 0, .int .i64 (4), .int .i64 (1), .bool false, (.slice (some ⟨bm3, 0, none⟩) 2 2)] 36) :: Rs) w4 := hS5.sel 3 [2, 0, 1] (Nat.le_add_left _ _) rfl rfl
  have hS7 : Sep G W ((RowE (α := Mv) own 49 (.slice (some ⟨bm3, 0, none⟩) 2 2) [(⟨0, 1, 0, 2⟩ : Mv), (⟨1, 0, -1, 0⟩ : Mv)]) :: (Blk bt1 #[(.slice (some ⟨bf2, 0, none⟩) 3 3)] 31) :: (Blk bf2 #[.int .i64 (1), .int .i64 (1), .bool true, .slice none 0 0, .int .i64 (3), .int .i64 (1), .bool false, .slice none 0 0, .int .i64 (4), .int .i64 (1), .bool false, (.slice (some ⟨bm3, 0, none⟩) 2 2)] 36) :: Rs) w4 := Sep.blkRow (src := own) (l := [(⟨0, 1, 0, 2⟩ : Mv), (⟨1, 0, -1, 0⟩ : Mv)]) (css := [(⟨0, 1, 0, 2⟩ : Mv).cells, (⟨1, 0, -1, 0⟩ : Mv).cells]) hS6 rfl ⟨fun _ _ => ⟨rfl, (show Mv.Ok (⟨0, 1, 0, 2⟩ : Mv) from ⟨by decide, by decide, by decide, by decide⟩)⟩, fun _ _ => ⟨rfl, (show Mv.Ok (⟨1, 0, -1, 0⟩ : Mv) from ⟨by decide, by decide, by decide, by decide⟩)⟩, trivial⟩ (by first | decide | (simp only [List.length_cons, List.length_nil]; decide))
  have hr8 := hS7.row (i := 0) rfl
  have hr8s : [(⟨0, 1, 0, 2⟩ : Mv), (⟨1, 0, -1, 0⟩ : Mv)].length * 32 ≤ 140737488355328 := hr8.2
  obtain ⟨G9, hA11, hB12, hS13, hk14⟩ := hS7.lend
  have hrd15 := RowE.rd hA11
  have hrd15s : [(⟨0, 1, 0, 2⟩ : Mv), (⟨1, 0, -1, 0⟩ : Mv)].length * 32 ≤ 140737488355328 := hrd15.small
  have hS16 : Sep G9 w4 ((Blk bf2 #[.int .i64 (1), .int .i64 (1), .bool true, .slice none 0 0, .int .i64 (3), .int .i64 (1), .bool false, .slice none 0 0, .int .i64 (4), .int .i64 (1), .bool false, (.slice (some ⟨bm3, 0, none⟩) 2 2)] 36) :: (Blk bt1 #[(.slice (some ⟨bf2, 0, none⟩) 3 3)] 31) :: Rs) w4 := hS13.sel 2 [1, 0] (Nat.le_add_left _ _) rfl rfl
  have hS17 : Sep G9 w4 ((RowE (α := Fld) (shr G9 w4) 36 (.slice (some ⟨bf2, 0, none⟩) 3 3) [fld1, fld2, fld3]) :: (Blk bt1 #[(.slice (some ⟨bf2, 0, none⟩) 3 3)] 31) :: Rs) w4 := Sep.blkRow (src := (shr G9 w4)) (l := [fld1, fld2, fld3]) (css := [fld1.cells (.slice none 0 0), fld2.cells (.slice none 0 0), fld3.cells (.slice (some ⟨bm3, 0, none⟩) 2 2)]) hS16 rfl ⟨fun _ _ => ⟨_, rfl, (RdS.nil _ _), fld1_ok⟩, fun _ _ => ⟨_, rfl, (RdS.nil _ _), fld2_ok⟩, fun _ _ => ⟨_, rfl, hrd15, fld3_ok⟩, trivial⟩ (by first | decide | (simp only [List.length_cons, List.length_nil]; decide))
  have hr18 := hS17.row (i := 0) rfl
  have hr18s : [fld1, fld2, fld3].length * 48 ≤ 140737488355328 := hr18.2
  obtain ⟨G19, hA21, hB22, hS23, hk24⟩ := hS17.lend
  have hrd25 := RowE.rdB hA21 hB22
  have hrd25s : [fld1, fld2, fld3].length * 48 ≤ 140737488355328 := hrd25.small
  refine st (ov_field (u := (.slice (some ⟨bt1, 0, none⟩) 1 1)) rfl (fun _ => by kernel_rfl) ?_)
  refine st (ov_indexAddrN (k := 1) (i := 0) Try.underlying22 Try.sizeOf31 rfl (⟨_, 1, rfl, Nat.le_refl _, fun _ => ⟨_, _, rfl⟩⟩ : IsSl _ 1) rfl (by decide) ?_)
  have ok26 : Typ.Ok (⟨[fld1, fld2, fld3]⟩ : Typ) := ⟨⟩
  refine st (ov_loadk (k := 1) Try.isAgg31 Try.sizeOf31 rfl rfl (CellsAt.all (hS23.blk (i := 0) rfl)) ?_)
  refine st (ov_alloc Try.zeroValue31 ?_)
  intro w29 b28 hn27
  have hS30 : Sep G19 w4 ((Blk b28 #[(.slice none 0 0)] 31) :: (Blk bt1 #[(.slice (some ⟨bf2, 0, none⟩) 3 3)] 31) :: Rs) w29 := hS23.new hn27
  refine stn (ov_store (v := .agg ((⟨[fld1, fld2, fld3]⟩ : Typ).cells (.slice (some ⟨bf2, 0, none⟩) 3 3)).toArray) (c' := ((⟨[fld1, fld2, fld3]⟩ : Typ).cells (.slice (some ⟨bf2, 0, none⟩) 3 3)).toArray) Try.sizeOf31 rfl rfl (hS30.blk (i := 0) rfl) (all1 ⟨rfl, trivial⟩) (Nat.le_of_ble_eq_true rfl) rfl ?_)
  intro w31 hp32
  have hS33 : Sep G19 w4 ((Blk b28 ((⟨[fld1, fld2, fld3]⟩ : Typ).cells (.slice (some ⟨bf2, 0, none⟩) 3 3)).toArray 31) :: (Blk bt1 #[(.slice (some ⟨bf2, 0, none⟩) 3 3)] 31) :: Rs) w31 := hS30.put (i := 0) rfl hp32
  refine st_nil ?_
  refine WP_seq ?_
  refine WP_region0 (by kernel_rfl) (fun _ => ?_)
  refine st (ov_loadk (k := 1) Try.isAgg31 Try.sizeOf31 rfl rfl (CellsAt.all (hS33.blk (i := 0) rfl)) ?_)
  refine st (ov_alloc Try.zeroValue31 ?_)
  intro w36 b35 hn34
  have hS37 : Sep G19 w4 ((Blk b35 #[(.slice none 0 0)] 31) :: (Blk b28 ((⟨[fld1, fld2, fld3]⟩ : Typ).cells (.slice (some ⟨bf2, 0, none⟩) 3 3)).toArray 31) :: (Blk bt1 #[(.slice (some ⟨bf2, 0, none⟩) 3 3)] 31) :: Rs) w36 := hS33.new hn34
  refine stn (ov_store (v := .agg ((⟨[fld1, fld2, fld3]⟩ : Typ).cells (.slice (some ⟨bf2, 0, none⟩) 3 3)).toArray) (c' := ((⟨[fld1, fld2, fld3]⟩ : Typ).cells (.slice (some ⟨bf2, 0, none⟩) 3 3)).toArray) Try.sizeOf31 rfl rfl (hS37.blk (i := 0) rfl) (all1 ⟨rfl, trivial⟩) (Nat.le_of_ble_eq_true rfl) rfl ?_)
  intro w38 hp39
  have hS40 : Sep G19 w4 ((Blk b35 ((⟨[fld1, fld2, fld3]⟩ : Typ).cells (.slice (some ⟨bf2, 0, none⟩) 3 3)).toArray 31) :: (Blk b28 ((⟨[fld1, fld2, fld3]⟩ : Typ).cells (.slice (some ⟨bf2, 0, none⟩) 3 3)).toArray 31) :: (Blk bt1 #[(.slice (some ⟨bf2, 0, none⟩) 3 3)] 31) :: Rs) w38 := hS37.put (i := 0) rfl hp39
  refine st_nil ?_
  refine WP_seq ?_
  refine WP_region0 (by kernel_rfl) (fun _ => ?_)
  have ok41 : Fld.Ok (⟨1, 1, false, []⟩ : Fld) := ⟨(show InR (1) from (by decide)), (show InR (1) from (by decide))⟩
  refine st (ov_build (parts' := [(0, .int .i64 (1)), (1, .int .i64 (1))]) (v := .agg ((⟨1, 1, false, []⟩ : Fld).cells (.slice none 0 0)).toArray) rfl (by simp [Instr.build, Instr.fill, Ev.cells, go_sem, Mv.cells, Fld.cells, Typ.cells, Prj.cells, Dcl.cells, Cel.cells, AskR.cells]) ?_)
  refine st (ov_buildSlice (k := 4) (parts' := [(0, .agg ((⟨1, 1, false, []⟩ : Fld).cells (.slice none 0 0)).toArray)]) (c := ((⟨1, 1, false, []⟩ : Fld).cells (.slice none 0 0)).toArray) Try.underlying29 Try.sizeOf36 Try.zeroValue36 (by decide) rfl (by kernel_rfl) ?_)
  intro w44 b43 hn42
  have hS45 : Sep G19 w4 ((Blk b43 ((⟨1, 1, false, []⟩ : Fld).cells (.slice none 0 0)).toArray 36) :: (Blk b35 ((⟨[fld1, fld2, fld3]⟩ : Typ).cells (.slice (some ⟨bf2, 0, none⟩) 3 3)).toArray 31) :: (Blk b28 ((⟨[fld1, fld2, fld3]⟩ : Typ).cells (.slice (some ⟨bf2, 0, none⟩) 3 3)).toArray 31) :: (Blk bt1 #[(.slice (some ⟨bf2, 0, none⟩) 3 3)] 31) :: Rs) w44 := hS40.new hn42
  refine st (fd31_0 rfl ?_)
  refine st (ov_load1 (v := (.slice (some ⟨bf2, 0, none⟩) 3 3)) Try.isAgg29 rfl (blk_cellL (hS45.blk (i := 2) rfl) rfl) ?_)
  refine st (ov_sliceLo (i := 1) (k := 4) (n := 3) Try.underlying29 Try.sizeOf36 rfl (⟨_, 3, rfl, Nat.le_refl _, fun _ => ⟨_, _, rfl⟩⟩ : IsSl _ 3) rfl (by first | omega | (simp only [lens]; omega)) ?_)
  have hS49 : Sep G19 w4 ((RowE (α := Fld) (shr G19 w4) 36 (.slice (some ⟨b43, 0, none⟩) 1 1) [(⟨1, 1, false, []⟩ : Fld)]) :: (Blk b35 ((⟨[fld1, fld2, fld3]⟩ : Typ).cells (.slice (some ⟨bf2, 0, none⟩) 3 3)).toArray 31) :: (Blk b28 ((⟨[fld1, fld2, fld3]⟩ : Typ).cells (.slice (some ⟨bf2, 0, none⟩) 3 3)).toArray 31) :: (Blk bt1 #[(.slice (some ⟨bf2, 0, none⟩) 3 3)] 31) :: Rs) w44 := Sep.blkRow (src := (shr G19 w4)) (l := [(⟨1, 1, false, []⟩ : Fld)]) (css := [(⟨1, 1, false, []⟩ : Fld).cells (.slice none 0 0)]) hS45 rfl ⟨fun _ _ => ⟨_, rfl, (RdS.nil _ _), ok41⟩, trivial⟩ (by first | decide | (simp only [List.length_cons, List.length_nil]; decide))
  have hr50 := hS49.row (i := 0) rfl
  have hr50s : [(⟨1, 1, false, []⟩ : Fld)].length * 48 ≤ 140737488355328 := hr50.2
  have h51 := RdS.sub_lo (i := 1) hrd25 (by first | omega | decide)
  have h51s : ([fld1, fld2, fld3].drop 1).length * 48 ≤ 140737488355328 := h51.small
  refine st (ov_appendS (src := (shr G19 w4)) (bytes := 48) hS49 el29 rfl rfl h51 (by first | omega | (simp only [List.length_append, List.length_cons, List.length_nil, List.length_take, List.length_drop]; omega)) rfl (hq' := fun _ _ h _ _ => h) ?_)
  intro v47 w46 hS48
  have hr52 := hS48.row (i := 0) rfl
  have hr52s : ([(⟨1, 1, false, []⟩ : Fld)] ++ [fld1, fld2, fld3].drop 1).length * 48 ≤ 140737488355328 := hr52.2
  refine st (fd31_0 rfl ?_)
  refine stn (ov_store1 (v := v47) (c := [(.slice (some ⟨bf2, 0, none⟩) 3 3)]) (c' := [v47]) Try.sizeOf29 rfl rfl (hS48.blk (i := 1) rfl) hr52.1.one rfl rfl ?_)
  intro w53 hp54
  have hS55 : Sep G19 w4 ((RowE (α := Fld) (shr G19 w4) 36 v47 ([(⟨1, 1, false, []⟩ : Fld)] ++ [fld1, fld2, fld3].drop 1)) :: (Blk b35 #[v47] 31) :: (Blk b28 ((⟨[fld1, fld2, fld3]⟩ : Typ).cells (.slice (some ⟨bf2, 0, none⟩) 3 3)).toArray 31) :: (Blk bt1 #[(.slice (some ⟨bf2, 0, none⟩) 3 3)] 31) :: Rs) w53 := hS48.put (i := 1) rfl hp54
  refine st_nil ?_
  refine WP_seq ?_
  refine WP_region0 (by kernel_rfl) (fun _ => ?_)
  refine st (ov_buildSlice (k := 1) (parts' := [(0, .int .i64 (-9223372036854775808)), (1, .int .i64 (-9223372036854775807)), (2, .int .i64 (-1)), (3, .int .i64 (0)), (4, .int .i64 (1)), (5, .int .i64 (9223372036854775806)), (6, .int .i64 (9223372036854775807))]) (c := #[.int .i64 (-9223372036854775808), .int .i64 (-9223372036854775807), .int .i64 (-1), .int .i64 (0), .int .i64 (1), .int .i64 (9223372036854775806), .int .i64 (9223372036854775807)]) Try.underlying44 Try.sizeOf3 Try.zeroValue3 (by decide) rfl (by kernel_rfl) ?_)
  intro w58 b57 hn56
  have hS59 : Sep G19 w4 ((Blk b57 #[.int .i64 (-9223372036854775808), .int .i64 (-9223372036854775807), .int .i64 (-1), .int .i64 (0), .int .i64 (1), .int .i64 (9223372036854775806), .int .i64 (9223372036854775807)] 3) :: (RowE (α := Fld) (shr G19 w4) 36 v47 ([(⟨1, 1, false, []⟩ : Fld)] ++ [fld1, fld2, fld3].drop 1)) :: (Blk b35 #[v47] 31) :: (Blk b28 ((⟨[fld1, fld2, fld3]⟩ : Typ).cells (.slice (some ⟨bf2, 0, none⟩) 3 3)).toArray 31) :: (Blk bt1 #[(.slice (some ⟨bf2, 0, none⟩) 3 3)] 31) :: Rs) w58 := hS55.new hn56
  refine st (ov_assign (v := (.slice (some ⟨b57, 0, none⟩) 7 7)) rfl ?_)
  refine st_nil ?_
  refine WP_seq ?_
  refine WP_seq ?_
  refine WP_region0 (by kernel_rfl) (fun _ => ?_)
  have hS60 : Sep G19 w4 ((RowE (α := Fld) (shr G19 w4) 36 v47 ([(⟨1, 1, false, []⟩ : Fld)] ++ [fld1, fld2, fld3].drop 1)) :: (Blk b57 #[.int .i64 (-9223372036854775808), .int .i64 (-9223372036854775807), .int .i64 (-1), .int .i64 (0), .int .i64 (1), .int .i64 (9223372036854775806), .int .i64 (9223372036854775807)] 3) :: (Blk b35 #[v47] 31) :: (Blk b28 ((⟨[fld1, fld2, fld3]⟩ : Typ).cells (.slice (some ⟨bf2, 0, none⟩) 3 3)).toArray 31) :: (Blk bt1 #[(.slice (some ⟨bf2, 0, none⟩) 3 3)] 31) :: Rs) w58 := hS59.sel 5 [1, 0, 2, 3, 4] (Nat.le_add_left _ _) rfl rfl
  obtain ⟨G61, hA63, hB64, hS65, hk66⟩ := hS60.lend
  have hrd67 := RowE.rdB hA63 hB64
  have hrd67s : ([(⟨1, 1, false, []⟩ : Fld)] ++ [fld1, fld2, fld3].drop 1).length * 48 ≤ 140737488355328 := hrd67.small
  have hS68 : Sep G61 w58 ((RowE (α := Int) own 3 (.slice (some ⟨b57, 0, none⟩) 7 7) [-9223372036854775808, -9223372036854775807, -1, 0, 1, 9223372036854775806, 9223372036854775807]) :: (Blk b35 #[v47] 31) :: (Blk b28 ((⟨[fld1, fld2, fld3]⟩ : Typ).cells (.slice (some ⟨bf2, 0, none⟩) 3 3)).toArray 31) :: (Blk bt1 #[(.slice (some ⟨bf2, 0, none⟩) 3 3)] 31) :: Rs) w58 := Sep.blkRow (src := own) (l := [-9223372036854775808, -9223372036854775807, -1, 0, 1, 9223372036854775806, 9223372036854775807]) (css := [[.int .i64 (-9223372036854775808)], [.int .i64 (-9223372036854775807)], [.int .i64 (-1)], [.int .i64 (0)], [.int .i64 (1)], [.int .i64 (9223372036854775806)], [.int .i64 (9223372036854775807)]]) hS65 rfl ⟨fun _ _ => ⟨rfl, (by decide)⟩, fun _ _ => ⟨rfl, (by decide)⟩, fun _ _ => ⟨rfl, (by decide)⟩, fun _ _ => ⟨rfl, (by decide)⟩, fun _ _ => ⟨rfl, (by decide)⟩, fun _ _ => ⟨rfl, (by decide)⟩, fun _ _ => ⟨rfl, (by decide)⟩, trivial⟩ (by first | decide | (simp only [List.length_cons, List.length_nil]; decide))
  have hr69 := hS68.row (i := 0) rfl
  have hr69s : [-9223372036854775808, -9223372036854775807, -1, 0, 1, 9223372036854775806, 9223372036854775807].length * 8 ≤ 140737488355328 := hr69.2
  have hS70 : Sep G61 w58 ((RowE (α := Int) own 3 (.slice (some ⟨b57, 0, none⟩) 7 7) nums7) :: (Blk b35 #[v47] 31) :: (Blk b28 ((⟨[fld1, fld2, fld3]⟩ : Typ).cells (.slice (some ⟨bf2, 0, none⟩) 3 3)).toArray 31) :: (Blk bt1 #[(.slice (some ⟨bf2, 0, none⟩) 3 3)] 31) :: Rs) w58 := hS68
  have hr71 := hS70.row (i := 0) rfl
  have hr71s : nums7.length * 8 ≤ 140737488355328 := hr71.2
  have h7 := nums7_len
  refine st (ov_assign (v := .int .i64 (0)) rfl ?_)
  refine st_nil ?_
  refine WP_block ?_
  refine WP_loop (fun mq σ wq => ∃ (k : Nat) (ρ : Env), mq = 7 - k ∧ σ = setAll ρ [(1, .pointer (some ⟨b28, 0, none⟩)), (2, .pointer (some ⟨b35, 0, none⟩)), (3, (.slice (some ⟨b57, 0, none⟩) 7 7)), (4, .int .i64 ((k : Nat) : Int))] ∧ (k ≤ 7) ∧ Sep G61 w58 ((RowE (α := Int) own 3 (.slice (some ⟨b57, 0, none⟩) 7 7) nums7) :: (Blk b35 #[v47] 31) :: (Blk b28 ((⟨[fld1, fld2, fld3]⟩ : Typ).cells (.slice (some ⟨bf2, 0, none⟩) 3 3)).toArray 31) :: (Blk bt1 #[(.slice (some ⟨bf2, 0, none⟩) 3 3)] 31) :: Rs) wq) ⟨0, _, rfl, setAll_self ⟨rfl, rfl, rfl, rfl, trivial⟩, Nat.zero_le _, hS70⟩ ?_
  rintro m73 σ74 w72 ⟨k, ρl1, rfl, rfl, hkk, hS75⟩
  refine WP_seq ?_
  refine WP_seq ?_
  refine WP_region0 (by kernel_rfl) (fun _ => ?_)
  refine st (ov_move (v := .int .i64 ((k : Nat) : Int)) rfl ?_)
  refine st (ov_move (v := (.slice (some ⟨b57, 0, none⟩) 7 7)) rfl ?_)
  refine st (ov_len (n := nums7.length) Try.underlying44 rfl hr71.1 ?_)
  refine st (ov_lss (k := .i64) (a := ((k : Nat) : Int)) (b := ((nums7.length : Nat) : Int)) rfl rfl ?_)
  refine st_nil ?_
  cases hc76 : decide (((k : Nat) : Int) < ((nums7.length : Nat) : Int))
  · skip
    have hc76 := of_decide_eq_false hc76
    refine WP_cond_f rfl ?_
    refine WP_exit ?_
    refine blk_exit ?_
    refine WP_seq ?_
    refine WP_region0 (by kernel_rfl) (fun _ => ?_)
    refine st (ov_loadk (k := 1) Try.isAgg31 Try.sizeOf31 rfl rfl (CellsAt.all (hS75.blk (i := 2) rfl)) ?_)
    refine st (ov_call (f := 15) (vals := [.agg ((⟨[fld1, fld2, fld3]⟩ : Typ).cells (.slice (some ⟨bf2, 0, none⟩) 3 3)).toArray]) (cap := []) (show _ = (.func (.func 15) #[] #[] : Value) from rfl) rfl Try.call15 (D_New (t := (⟨[fld1, fld2, fld3]⟩ : Typ)) (RdS.base hrd25 hB64) ok26 hS75) ?_)
    rintro v77 w78 ⟨_, rfl, hS79⟩
    have hr80 := hS79.row (i := 0) rfl
    have hr80s : (List.replicate (⟨[fld1, fld2, fld3]⟩ : Typ).fields.length (⟨0, []⟩ : Cel)).length * 32 ≤ 140737488355328 := hr80.2
    refine st (ov_assign (v := v77) rfl ?_)
    refine st_nil ?_
    refine WP_seq ?_
    refine WP_seq ?_
    refine WP_region0 (by kernel_rfl) (fun _ => ?_)
    refine st (ov_assign (v := .int .i64 (0)) rfl ?_)
    refine st_nil ?_
    refine WP_block ?_
    refine WP_loop (fun mq σ wq => ∃ (q : Nat) (vc2 : Value) (ρ : Env), mq = 64 - q ∧ σ = setAll ρ [(1, .pointer (some ⟨b28, 0, none⟩)), (9, .int .i64 ((q : Nat) : Int)), (8, vc2)] ∧ (q ≤ 64) ∧ Sep G61 w58 ((RowE (α := Cel) own 47 vc2 (setL q)) :: (RowE (α := Int) own 3 (.slice (some ⟨b57, 0, none⟩) 7 7) nums7) :: (Blk b35 #[v47] 31) :: (Blk b28 ((⟨[fld1, fld2, fld3]⟩ : Typ).cells (.slice (some ⟨bf2, 0, none⟩) 3 3)).toArray 31) :: (Blk bt1 #[(.slice (some ⟨bf2, 0, none⟩) 3 3)] 31) :: Rs) wq) ⟨0, v77, _, rfl, setAll_self ⟨rfl, rfl, rfl, trivial⟩, Nat.zero_le _, hS79⟩ ?_
    rintro m82 σ83 w81 ⟨q, vc2, ρl2, rfl, rfl, hkq, hS84⟩
    have hr85 := hS84.row (i := 0) rfl
    have hr85s : (setL q).length * 32 ≤ 140737488355328 := hr85.2
    refine WP_seq ?_
    refine WP_seq ?_
    refine WP_region0 (by kernel_rfl) (fun _ => ?_)
    refine st (ov_move (v := .int .i64 ((q : Nat) : Int)) rfl ?_)
    refine st (ov_lss (k := .i64) (a := ((q : Nat) : Int)) (b := 64) rfl rfl ?_)
    refine st_nil ?_
    cases hc86 : decide (((q : Nat) : Int) < 64)
    · skip
      have hc86 := of_decide_eq_false hc86
      have h64 : q = 64 := by omega
      refine WP_cond_f rfl ?_
      refine WP_exit ?_
      refine blk_exit ?_
      refine WP_seq ?_
      refine WP_seq ?_
      refine WP_region (by kernel_rfl) ?_
      refine st (ov_loadk (k := 1) Try.isAgg31 Try.sizeOf31 rfl rfl (CellsAt.all (hS84.blk (i := 3) rfl)) ?_)
      refine st (ov_move (v := vc2) rfl ?_)
      obtain ⟨G87, hA89, hB90, hS91, hk92⟩ := hS84.lend
      have hrd93 := RowE.rd hA89
      have hrd93s : (setL q).length * 32 ≤ 140737488355328 := hrd93.small
      refine st (ov_call (f := 10) (vals := [.agg ((⟨[fld1, fld2, fld3]⟩ : Typ).cells (.slice (some ⟨bf2, 0, none⟩) 3 3)).toArray, vc2, .int .i64 (1), .int .i64 (3), .int .i64 (7)]) (cap := []) (show _ = (.func (.func 10) #[] #[] : Value) from rfl) rfl Try.call10 (D_May (t := (⟨[fld1, fld2, fld3]⟩ : Typ)) (c := setL q) (vc := vc2) (f := 1) (op := 3) (arg := 7) (RdS.base (RdS.base hrd25 hB64) hB90) ok26 hrd93 (by decide) (by decide) (by decide) hS91 ((by first | exact set_ask q (by omega) | (rw [h64]; decide +kernel) | exact ⟨by decide +kernel, by decide +kernel, by first | omega | decide +kernel | (rw [List.length_set]; decide +kernel), fun h => by omega, fun h => by omega⟩))) ?_)
      rintro _ w94 ⟨rfl, hS95⟩
      have hS96 : Sep G61 w58 ((RowE (α := Cel) own 47 vc2 (setL q)) :: (RowE (α := Int) own 3 (.slice (some ⟨b57, 0, none⟩) 7 7) nums7) :: (Blk b35 #[v47] 31) :: (Blk b28 ((⟨[fld1, fld2, fld3]⟩ : Typ).cells (.slice (some ⟨bf2, 0, none⟩) 3 3)).toArray 31) :: (Blk bt1 #[(.slice (some ⟨bf2, 0, none⟩) 3 3)] 31) :: Rs) w94 := hk92 _ _ hS95
      refine st (ov_neq (k := .i64) (a := mayL (⟨[fld1, fld2, fld3]⟩ : Typ) (setL q) 1 3 7) (b := 10) rfl rfl ?_)
      have hkn97 : (!decide ((mayL (⟨[fld1, fld2, fld3]⟩ : Typ) (setL q) 1 3 7) = 10)) = false := (by rw [h64]; decide +kernel)
      rw [hkn97]
      refine st (ov_move (v := .bool false) rfl ?_)
      refine sty rfl rfl (ov_loadk (k := 1) Try.isAgg31 Try.sizeOf31 rfl rfl (CellsAt.all (hS96.blk (i := 3) rfl)) ?_)
      refine sty rfl rfl (ov_move (v := vc2) rfl ?_)
      obtain ⟨G98, hA100, hB101, hS102, hk103⟩ := hS96.lend
      have hrd104 := RowE.rd hA100
      have hrd104s : (setL q).length * 32 ≤ 140737488355328 := hrd104.small
      refine sty rfl rfl (ov_call (f := 10) (vals := [.agg ((⟨[fld1, fld2, fld3]⟩ : Typ).cells (.slice (some ⟨bf2, 0, none⟩) 3 3)).toArray, vc2, .int .i64 (1), .int .i64 (3), .int .i64 (5)]) (cap := []) (show _ = (.func (.func 10) #[] #[] : Value) from rfl) rfl Try.call10 (D_May (t := (⟨[fld1, fld2, fld3]⟩ : Typ)) (c := setL q) (vc := vc2) (f := 1) (op := 3) (arg := 5) (RdS.base (RdS.base hrd25 hB64) hB101) ok26 hrd104 (by decide) (by decide) (by decide) hS102 ((by first | exact set_ask q (by omega) | (rw [h64]; decide +kernel) | exact ⟨by decide +kernel, by decide +kernel, by first | omega | decide +kernel | (rw [List.length_set]; decide +kernel), fun h => by omega, fun h => by omega⟩))) ?_)
      rintro _ w105 ⟨rfl, hS106⟩
      have hS107 : Sep G61 w58 ((RowE (α := Cel) own 47 vc2 (setL q)) :: (RowE (α := Int) own 3 (.slice (some ⟨b57, 0, none⟩) 7 7) nums7) :: (Blk b35 #[v47] 31) :: (Blk b28 ((⟨[fld1, fld2, fld3]⟩ : Typ).cells (.slice (some ⟨bf2, 0, none⟩) 3 3)).toArray 31) :: (Blk bt1 #[(.slice (some ⟨bf2, 0, none⟩) 3 3)] 31) :: Rs) w105 := hk103 _ _ hS106
      refine sty rfl rfl (ov_neq (k := .i64) (a := mayL (⟨[fld1, fld2, fld3]⟩ : Typ) (setL q) 1 3 5) (b := 0) rfl rfl ?_)
      have hkn108 : (!decide ((mayL (⟨[fld1, fld2, fld3]⟩ : Typ) (setL q) 1 3 5) = 0)) = false := (by rw [h64]; decide +kernel)
      rw [hkn108]
      refine st (ov_pick_f (v := .bool false) rfl rfl ?_)
      refine st (ov_move (v := .bool false) rfl ?_)
      refine sty rfl rfl (ov_loadk (k := 1) Try.isAgg31 Try.sizeOf31 rfl rfl (CellsAt.all (hS107.blk (i := 3) rfl)) ?_)
      refine sty rfl rfl (ov_move (v := vc2) rfl ?_)
      obtain ⟨G109, hA111, hB112, hS113, hk114⟩ := hS107.lend
      have hrd115 := RowE.rd hA111
      have hrd115s : (setL q).length * 32 ≤ 140737488355328 := hrd115.small
      refine sty rfl rfl (ov_call (f := 10) (vals := [.agg ((⟨[fld1, fld2, fld3]⟩ : Typ).cells (.slice (some ⟨bf2, 0, none⟩) 3 3)).toArray, vc2, .int .i64 (1), .int .i64 (4), .int .i64 (7)]) (cap := []) (show _ = (.func (.func 10) #[] #[] : Value) from rfl) rfl Try.call10 (D_May (t := (⟨[fld1, fld2, fld3]⟩ : Typ)) (c := setL q) (vc := vc2) (f := 1) (op := 4) (arg := 7) (RdS.base (RdS.base hrd25 hB64) hB112) ok26 hrd115 (by decide) (by decide) (by decide) hS113 ((by first | exact set_ask q (by omega) | (rw [h64]; decide +kernel) | exact ⟨by decide +kernel, by decide +kernel, by first | omega | decide +kernel | (rw [List.length_set]; decide +kernel), fun h => by omega, fun h => by omega⟩))) ?_)
      rintro _ w116 ⟨rfl, hS117⟩
      have hS118 : Sep G61 w58 ((RowE (α := Cel) own 47 vc2 (setL q)) :: (RowE (α := Int) own 3 (.slice (some ⟨b57, 0, none⟩) 7 7) nums7) :: (Blk b35 #[v47] 31) :: (Blk b28 ((⟨[fld1, fld2, fld3]⟩ : Typ).cells (.slice (some ⟨bf2, 0, none⟩) 3 3)).toArray 31) :: (Blk bt1 #[(.slice (some ⟨bf2, 0, none⟩) 3 3)] 31) :: Rs) w116 := hk114 _ _ hS117
      refine sty rfl rfl (ov_neq (k := .i64) (a := mayL (⟨[fld1, fld2, fld3]⟩ : Typ) (setL q) 1 4 7) (b := 0) rfl rfl ?_)
      have hkn119 : (!decide ((mayL (⟨[fld1, fld2, fld3]⟩ : Typ) (setL q) 1 4 7) = 0)) = false := (by rw [h64]; decide +kernel)
      rw [hkn119]
      refine st (ov_pick_f (v := .bool false) rfl rfl ?_)
      refine st_nil ?_
      refine WP_cond_f rfl ?_
      refine WP_skip ?_
      refine WP_seq ?_
      refine WP_draw4 (WF [fun vals wq => Sep G61 w58 ((RowE (α := Cel) own 47 vc2 (setL q)) :: (RowE (α := Int) own 3 (.slice (some ⟨b57, 0, none⟩) 7 7) nums7) :: (Blk b35 #[v47] 31) :: (Blk b28 ((⟨[fld1, fld2, fld3]⟩ : Typ).cells (.slice (some ⟨bf2, 0, none⟩) 3 3)).toArray 31) :: (Blk bt1 #[(.slice (some ⟨bf2, 0, none⟩) 3 3)] 31) :: Rs) wq, fun vals wq => ∃ (v156 : Value), (vals 3 = (v156 : Value)) ∧ Sep G61 w58 ((RowE (α := Cel) own 47 vc2 (setL q)) :: (RowE (α := Cel) own 47 v156 (doL (⟨[fld1, fld2, fld3]⟩ : Typ) (setL q) 1 4 0)) :: (RowE (α := Int) own 3 (.slice (some ⟨b57, 0, none⟩) 7 7) nums7) :: (Blk b35 #[v47] 31) :: (Blk b28 ((⟨[fld1, fld2, fld3]⟩ : Typ).cells (.slice (some ⟨bf2, 0, none⟩) 3 3)).toArray 31) :: (Blk bt1 #[(.slice (some ⟨bf2, 0, none⟩) 3 3)] 31) :: Rs) wq, fun vals wq => ∃ (v156 : Value), (vals 3 = (v156 : Value)) ∧ (vals 4 = (.int .i64 (mayL (⟨[fld1, fld2, fld3]⟩ : Typ) (doL (⟨[fld1, fld2, fld3]⟩ : Typ) (setL q) 1 4 0) 1 3 7) : Value)) ∧ Sep G61 w58 ((RowE (α := Cel) own 47 v156 (doL (⟨[fld1, fld2, fld3]⟩ : Typ) (setL q) 1 4 0)) :: (RowE (α := Cel) own 47 vc2 (setL q)) :: (RowE (α := Int) own 3 (.slice (some ⟨b57, 0, none⟩) 7 7) nums7) :: (Blk b35 #[v47] 31) :: (Blk b28 ((⟨[fld1, fld2, fld3]⟩ : Typ).cells (.slice (some ⟨bf2, 0, none⟩) 3 3)).toArray 31) :: (Blk bt1 #[(.slice (some ⟨bf2, 0, none⟩) 3 3)] 31) :: Rs) wq, fun vals wq => ∃ (v156 : Value), (vals 3 = (v156 : Value)) ∧ (vals 4 = (.int .i64 (mayL (⟨[fld1, fld2, fld3]⟩ : Typ) (doL (⟨[fld1, fld2, fld3]⟩ : Typ) (setL q) 1 4 0) 1 3 7) : Value)) ∧ (vals 7 = (if (decide ((mayL (⟨[fld1, fld2, fld3]⟩ : Typ) (doL (⟨[fld1, fld2, fld3]⟩ : Typ) (setL q) 1 4 0) 1 3 7) = 0)) = true then (.bool true : Value) else undef)) ∧ Sep G61 w58 ((RowE (α := Cel) own 47 v156 (doL (⟨[fld1, fld2, fld3]⟩ : Typ) (setL q) 1 4 0)) :: (RowE (α := Cel) own 47 vc2 (setL q)) :: (RowE (α := Int) own 3 (.slice (some ⟨b57, 0, none⟩) 7 7) nums7) :: (Blk b35 #[v47] 31) :: (Blk b28 ((⟨[fld1, fld2, fld3]⟩ : Typ).cells (.slice (some ⟨bf2, 0, none⟩) 3 3)).toArray 31) :: (Blk bt1 #[(.slice (some ⟨bf2, 0, none⟩) 3 3)] 31) :: Rs) wq]) (AF [fun vals => vals 0 = (.agg ((⟨[fld1, fld2, fld3]⟩ : Typ).cells (.slice (some ⟨bf2, 0, none⟩) 3 3)).toArray : Value), fun vals => vals 1 = (.agg ((⟨[fld1, fld2, fld3]⟩ : Typ).cells (.slice (some ⟨bf2, 0, none⟩) 3 3)).toArray : Value), fun vals => vals 2 = (vc2 : Value), fun _ => True, fun _ => True, fun vals => vals 5 = (.bool (decide ((mayL (⟨[fld1, fld2, fld3]⟩ : Typ) (doL (⟨[fld1, fld2, fld3]⟩ : Typ) (setL q) 1 4 0) 1 3 7) = 0)) : Value), fun vals => vals 6 = (.bool (decide ((mayL (⟨[fld1, fld2, fld3]⟩ : Typ) (doL (⟨[fld1, fld2, fld3]⟩ : Typ) (setL q) 1 4 0) 1 3 7) = 0)) : Value), fun _ => True, fun vals => vals 8 = (.bool ((decide ((mayL (⟨[fld1, fld2, fld3]⟩ : Typ) (doL (⟨[fld1, fld2, fld3]⟩ : Typ) (setL q) 1 4 0) 1 3 7) = 0)) && true) : Value), fun vals => vals 9 = (.bool ((decide ((mayL (⟨[fld1, fld2, fld3]⟩ : Typ) (doL (⟨[fld1, fld2, fld3]⟩ : Typ) (setL q) 1 4 0) 1 3 7) = 0)) && true) : Value)]) [[], [], [], [1, 2], [0, 1, 2, 3], [0, 1, 2, 3, 4], [0, 1, 2, 3, 4, 5], [0, 1, 2, 3, 4, 5, 6], [0, 1, 2, 3, 4, 5, 6, 7], [0, 1, 2, 3, 4, 5, 6, 7, 8]] [3, 4, 7] [(0, 1), (0, 0), (0, 0), (0, 0), (1, 1), (2, 2), (2, 2), (2, 2), (3, 3), (3, 3)] (by kernel_rfl) (by kernel_rfl) (by kernel_rfl) rfl (by kernel_rfl) (by kernel_rfl) (fun _ h1 h2 h3 h4 _ => hS118.same h1 h2 h3 h4) ?_ ?_ ⟨?_, ?_, ?_, ?_, ?_, ?_, ?_, ?_, ?_, ?_, trivial⟩ ?_
      · intro k vals vals' w hv h
        have e : ∀ j ∈ ([3, 4, 7] : List Nat), vals' j = vals j := hv
        match k, h with
        | 0, h => exact h
        | 1, h => exact (by simpa only [WF, List.getElem?_cons_zero, List.getElem?_cons_succ, e 3 (by decide)] using h)
        | 2, h => exact (by simpa only [WF, List.getElem?_cons_zero, List.getElem?_cons_succ, e 3 (by decide), e 4 (by decide)] using h)
        | 3, h => exact (by simpa only [WF, List.getElem?_cons_zero, List.getElem?_cons_succ, e 3 (by decide), e 4 (by decide), e 7 (by decide)] using h)
        | _ + 4, _ => trivial
      · intro i vals vals' hv h
        match i, hv, h with
        | 0, hv, h => exact (hv 0 (.inl rfl)).trans h
        | 1, hv, h => exact (hv 1 (.inl rfl)).trans h
        | 2, hv, h => exact (hv 2 (.inl rfl)).trans h
        | 3, _, _ => trivial
        | 4, _, _ => trivial
        | 5, hv, h => exact (hv 5 (.inl rfl)).trans h
        | 6, hv, h => exact (hv 6 (.inl rfl)).trans h
        | 7, _, _ => trivial
        | 8, hv, h => exact (hv 8 (.inl rfl)).trans h
        | 9, hv, h => exact (hv 9 (.inl rfl)).trans h
        | _ + 10, _, _ => trivial
      · intro k224 vals w225 h228 h229 hW227 hA226
        have hkk : k224 = 0 ∨ k224 = 1 := by have h1 : 0 ≤ k224 := h228; have h2 : k224 ≤ 1 := h229; omega
        rcases hkk with rfl | rfl
        · skip
          have hS230 : Sep G61 w58 ((RowE (α := Cel) own 47 vc2 (setL q)) :: (RowE (α := Int) own 3 (.slice (some ⟨b57, 0, none⟩) 7 7) nums7) :: (Blk b35 #[v47] 31) :: (Blk b28 ((⟨[fld1, fld2, fld3]⟩ : Typ).cells (.slice (some ⟨bf2, 0, none⟩) 3 3)).toArray 31) :: (Blk bt1 #[(.slice (some ⟨bf2, 0, none⟩) 3 3)] 31) :: Rs) w225 := hW227
          refine obl rfl ?_
          exact ov_loadk (k := 1) Try.isAgg31 Try.sizeOf31 rfl rfl (CellsAt.all (hS230.blk (i := 3) rfl)) (fun vals' hv _ => ⟨rfl, hv⟩)
        · skip
          obtain ⟨v156, he161, hS231⟩ : ∃ (v156 : Value), (vals 3 = (v156 : Value)) ∧ Sep G61 w58 ((RowE (α := Cel) own 47 vc2 (setL q)) :: (RowE (α := Cel) own 47 v156 (doL (⟨[fld1, fld2, fld3]⟩ : Typ) (setL q) 1 4 0)) :: (RowE (α := Int) own 3 (.slice (some ⟨b57, 0, none⟩) 7 7) nums7) :: (Blk b35 #[v47] 31) :: (Blk b28 ((⟨[fld1, fld2, fld3]⟩ : Typ).cells (.slice (some ⟨bf2, 0, none⟩) 3 3)).toArray 31) :: (Blk bt1 #[(.slice (some ⟨bf2, 0, none⟩) 3 3)] 31) :: Rs) w225 := hW227
          refine obl rfl ?_
          exact ov_loadk (k := 1) Try.isAgg31 Try.sizeOf31 rfl rfl (CellsAt.all (hS231.blk (i := 4) rfl)) (fun vals' hv _ => ⟨rfl, hv⟩)
      · intro k232 vals w233 h236 h237 hW235 hA234
        obtain rfl : k232 = 0 := Nat.le_antisymm h237 h236
        have hS238 : Sep G61 w58 ((RowE (α := Cel) own 47 vc2 (setL q)) :: (RowE (α := Int) own 3 (.slice (some ⟨b57, 0, none⟩) 7 7) nums7) :: (Blk b35 #[v47] 31) :: (Blk b28 ((⟨[fld1, fld2, fld3]⟩ : Typ).cells (.slice (some ⟨bf2, 0, none⟩) 3 3)).toArray 31) :: (Blk bt1 #[(.slice (some ⟨bf2, 0, none⟩) 3 3)] 31) :: Rs) w233 := hW235
        refine obl rfl ?_
        exact ov_loadk (k := 1) Try.isAgg31 Try.sizeOf31 rfl rfl (CellsAt.all (hS238.blk (i := 3) rfl)) (fun vals' hv _ => ⟨rfl, hv⟩)
      · intro k239 vals w240 h243 h244 hW242 hA241
        refine obl rfl ?_
        exact ov_move (v := vc2) rfl (fun vals' hv _ => ⟨rfl, hv⟩)
      · intro k140 vals w141 h144 h145 hW143 hA142
        obtain rfl : k140 = 0 := Nat.le_antisymm h145 h144
        have hS146 : Sep G61 w58 ((RowE (α := Cel) own 47 vc2 (setL q)) :: (RowE (α := Int) own 3 (.slice (some ⟨b57, 0, none⟩) 7 7) nums7) :: (Blk b35 #[v47] 31) :: (Blk b28 ((⟨[fld1, fld2, fld3]⟩ : Typ).cells (.slice (some ⟨bf2, 0, none⟩) 3 3)).toArray 31) :: (Blk bt1 #[(.slice (some ⟨bf2, 0, none⟩) 3 3)] 31) :: Rs) w141 := hW143
        have e147 : vals 1 = (.agg ((⟨[fld1, fld2, fld3]⟩ : Typ).cells (.slice (some ⟨bf2, 0, none⟩) 3 3)).toArray : Value) := hA142 1 (by decide)
        have e148 : vals 2 = (vc2 : Value) := hA142 2 (by decide)
        refine obl rfl ?_
        obtain ⟨G149, hA151, hB152, hS153, hk154⟩ := hS146.lend
        have hrd155 := RowE.rd hA151
        have hrd155s : (setL q).length * 32 ≤ 140737488355328 := hrd155.small
        refine (ov_call (f := 11) (vals := [.agg ((⟨[fld1, fld2, fld3]⟩ : Typ).cells (.slice (some ⟨bf2, 0, none⟩) 3 3)).toArray, vc2, .int .i64 (1), .int .i64 (4), .int .i64 (0)]) (cap := []) (show _ = (.func (.func 11) #[] #[] : Value) from rfl) (mapL ⟨(show _ = (.agg ((⟨[fld1, fld2, fld3]⟩ : Typ).cells (.slice (some ⟨bf2, 0, none⟩) 3 3)).toArray : Value) from e147), (show _ = (vc2 : Value) from e148), rfl, rfl, rfl, trivial⟩) Try.call11 (D_Do (t := (⟨[fld1, fld2, fld3]⟩ : Typ)) (c := setL q) (vc := vc2) (f := 1) (op := 4) (arg := 0) (RdS.base (RdS.base hrd25 hB64) hB152) ok26 hrd155 (by decide) (by decide) (by decide) hS153 ((by first | exact set_ask q (by omega) | (rw [h64]; decide +kernel) | exact ⟨by decide +kernel, by decide +kernel, by first | omega | decide +kernel | (rw [List.length_set]; decide +kernel), fun h => by omega, fun h => by omega⟩)) ((by first | exact set_few q (by omega) | (rw [h64]; decide +kernel)))) ?_)
        rintro v156 w157 ⟨_, rfl, hS158⟩
        have hr159 := hS158.row (i := 0) rfl
        have hr159s : (doL (⟨[fld1, fld2, fld3]⟩ : Typ) (setL q) 1 4 0).length * 32 ≤ 140737488355328 := hr159.2
        have hS160 : Sep G61 w58 ((RowE (α := Cel) own 47 vc2 (setL q)) :: (RowE (α := Cel) own 47 v156 (doL (⟨[fld1, fld2, fld3]⟩ : Typ) (setL q) 1 4 0)) :: (RowE (α := Int) own 3 (.slice (some ⟨b57, 0, none⟩) 7 7) nums7) :: (Blk b35 #[v47] 31) :: (Blk b28 ((⟨[fld1, fld2, fld3]⟩ : Typ).cells (.slice (some ⟨bf2, 0, none⟩) 3 3)).toArray 31) :: (Blk bt1 #[(.slice (some ⟨bf2, 0, none⟩) 3 3)] 31) :: Rs) w157 := hk154 _ _ hS158
        intro vals' hv hv'
        refine ⟨?_, trivial⟩
        show ∃ (v156 : Value), (vals' 3 = (v156 : Value)) ∧ Sep G61 w58 ((RowE (α := Cel) own 47 vc2 (setL q)) :: (RowE (α := Cel) own 47 v156 (doL (⟨[fld1, fld2, fld3]⟩ : Typ) (setL q) 1 4 0)) :: (RowE (α := Int) own 3 (.slice (some ⟨b57, 0, none⟩) 7 7) nums7) :: (Blk b35 #[v47] 31) :: (Blk b28 ((⟨[fld1, fld2, fld3]⟩ : Typ).cells (.slice (some ⟨bf2, 0, none⟩) 3 3)).toArray 31) :: (Blk bt1 #[(.slice (some ⟨bf2, 0, none⟩) 3 3)] 31) :: Rs) w157
        exact ⟨v156, hv, hS160⟩
      · intro k162 vals w163 h166 h167 hW165 hA164
        obtain rfl : k162 = 1 := Nat.le_antisymm h167 h166
        obtain ⟨v156, he161, hS168⟩ : ∃ (v156 : Value), (vals 3 = (v156 : Value)) ∧ Sep G61 w58 ((RowE (α := Cel) own 47 vc2 (setL q)) :: (RowE (α := Cel) own 47 v156 (doL (⟨[fld1, fld2, fld3]⟩ : Typ) (setL q) 1 4 0)) :: (RowE (α := Int) own 3 (.slice (some ⟨b57, 0, none⟩) 7 7) nums7) :: (Blk b35 #[v47] 31) :: (Blk b28 ((⟨[fld1, fld2, fld3]⟩ : Typ).cells (.slice (some ⟨bf2, 0, none⟩) 3 3)).toArray 31) :: (Blk bt1 #[(.slice (some ⟨bf2, 0, none⟩) 3 3)] 31) :: Rs) w163 := hW165
        have e169 : vals 0 = (.agg ((⟨[fld1, fld2, fld3]⟩ : Typ).cells (.slice (some ⟨bf2, 0, none⟩) 3 3)).toArray : Value) := hA164 0 (by decide)
        refine obl rfl ?_
        have hS170 : Sep G61 w58 ((RowE (α := Cel) own 47 v156 (doL (⟨[fld1, fld2, fld3]⟩ : Typ) (setL q) 1 4 0)) :: (RowE (α := Cel) own 47 vc2 (setL q)) :: (RowE (α := Int) own 3 (.slice (some ⟨b57, 0, none⟩) 7 7) nums7) :: (Blk b35 #[v47] 31) :: (Blk b28 ((⟨[fld1, fld2, fld3]⟩ : Typ).cells (.slice (some ⟨bf2, 0, none⟩) 3 3)).toArray 31) :: (Blk bt1 #[(.slice (some ⟨bf2, 0, none⟩) 3 3)] 31) :: Rs) w163 := hS168.sel 6 [1, 0, 2, 3, 4, 5] (Nat.le_add_left _ _) rfl rfl
        obtain ⟨G171, hA173, hB174, hS175, hk176⟩ := hS170.lend
        have hrd177 := RowE.rd hA173
        have hrd177s : (doL (⟨[fld1, fld2, fld3]⟩ : Typ) (setL q) 1 4 0).length * 32 ≤ 140737488355328 := hrd177.small
        refine (ov_call (f := 10) (vals := [.agg ((⟨[fld1, fld2, fld3]⟩ : Typ).cells (.slice (some ⟨bf2, 0, none⟩) 3 3)).toArray, v156, .int .i64 (1), .int .i64 (3), .int .i64 (7)]) (cap := []) (show _ = (.func (.func 10) #[] #[] : Value) from rfl) (mapL ⟨(show _ = (.agg ((⟨[fld1, fld2, fld3]⟩ : Typ).cells (.slice (some ⟨bf2, 0, none⟩) 3 3)).toArray : Value) from e169), (show _ = (v156 : Value) from he161), rfl, rfl, rfl, trivial⟩) Try.call10 (D_May (t := (⟨[fld1, fld2, fld3]⟩ : Typ)) (c := (doL (⟨[fld1, fld2, fld3]⟩ : Typ) (setL q) 1 4 0)) (vc := v156) (f := 1) (op := 3) (arg := 7) (RdS.base (RdS.base hrd25 hB64) hB174) ok26 hrd177 (by decide) (by decide) (by decide) hS175 ((by first | exact set_ask q (by omega) | (rw [h64]; decide +kernel) | exact ⟨by decide +kernel, by decide +kernel, by first | omega | decide +kernel | (rw [List.length_set]; decide +kernel), fun h => by omega, fun h => by omega⟩))) ?_)
        rintro _ w178 ⟨rfl, hS179⟩
        have hS180 : Sep G61 w58 ((RowE (α := Cel) own 47 v156 (doL (⟨[fld1, fld2, fld3]⟩ : Typ) (setL q) 1 4 0)) :: (RowE (α := Cel) own 47 vc2 (setL q)) :: (RowE (α := Int) own 3 (.slice (some ⟨b57, 0, none⟩) 7 7) nums7) :: (Blk b35 #[v47] 31) :: (Blk b28 ((⟨[fld1, fld2, fld3]⟩ : Typ).cells (.slice (some ⟨bf2, 0, none⟩) 3 3)).toArray 31) :: (Blk bt1 #[(.slice (some ⟨bf2, 0, none⟩) 3 3)] 31) :: Rs) w178 := hk176 _ _ hS179
        intro vals' hv hv'
        refine ⟨?_, trivial⟩
        show ∃ (v156 : Value), (vals' 3 = (v156 : Value)) ∧ (vals' 4 = (.int .i64 (mayL (⟨[fld1, fld2, fld3]⟩ : Typ) (doL (⟨[fld1, fld2, fld3]⟩ : Typ) (setL q) 1 4 0) 1 3 7) : Value)) ∧ Sep G61 w58 ((RowE (α := Cel) own 47 v156 (doL (⟨[fld1, fld2, fld3]⟩ : Typ) (setL q) 1 4 0)) :: (RowE (α := Cel) own 47 vc2 (setL q)) :: (RowE (α := Int) own 3 (.slice (some ⟨b57, 0, none⟩) 7 7) nums7) :: (Blk b35 #[v47] 31) :: (Blk b28 ((⟨[fld1, fld2, fld3]⟩ : Typ).cells (.slice (some ⟨bf2, 0, none⟩) 3 3)).toArray 31) :: (Blk bt1 #[(.slice (some ⟨bf2, 0, none⟩) 3 3)] 31) :: Rs) w178
        exact ⟨v156, (by rw [hv' 3 (by decide)]; exact he161), hv, hS180⟩
      · intro k245 vals w246 h249 h250 hW248 hA247
        obtain rfl : k245 = 2 := Nat.le_antisymm h250 h249
        obtain ⟨v156, he161, he181, hS251⟩ : ∃ (v156 : Value), (vals 3 = (v156 : Value)) ∧ (vals 4 = (.int .i64 (mayL (⟨[fld1, fld2, fld3]⟩ : Typ) (doL (⟨[fld1, fld2, fld3]⟩ : Typ) (setL q) 1 4 0) 1 3 7) : Value)) ∧ Sep G61 w58 ((RowE (α := Cel) own 47 v156 (doL (⟨[fld1, fld2, fld3]⟩ : Typ) (setL q) 1 4 0)) :: (RowE (α := Cel) own 47 vc2 (setL q)) :: (RowE (α := Int) own 3 (.slice (some ⟨b57, 0, none⟩) 7 7) nums7) :: (Blk b35 #[v47] 31) :: (Blk b28 ((⟨[fld1, fld2, fld3]⟩ : Typ).cells (.slice (some ⟨bf2, 0, none⟩) 3 3)).toArray 31) :: (Blk bt1 #[(.slice (some ⟨bf2, 0, none⟩) 3 3)] 31) :: Rs) w246 := hW248
        refine obl rfl ?_
        exact ov_eql (k := .i64) (a := mayL (⟨[fld1, fld2, fld3]⟩ : Typ) (doL (⟨[fld1, fld2, fld3]⟩ : Typ) (setL q) 1 4 0) 1 3 7) (b := 0) (show _ = (.int .i64 (mayL (⟨[fld1, fld2, fld3]⟩ : Typ) (doL (⟨[fld1, fld2, fld3]⟩ : Typ) (setL q) 1 4 0) 1 3 7) : Value) from he181) rfl (fun vals' hv _ => ⟨rfl, hv⟩)
      · intro k252 vals w253 h256 h257 hW255 hA254
        have e258 : vals 5 = (.bool (decide ((mayL (⟨[fld1, fld2, fld3]⟩ : Typ) (doL (⟨[fld1, fld2, fld3]⟩ : Typ) (setL q) 1 4 0) 1 3 7) = 0)) : Value) := hA254 5 (by decide)
        refine obl rfl ?_
        exact ov_move (v := .bool (decide ((mayL (⟨[fld1, fld2, fld3]⟩ : Typ) (doL (⟨[fld1, fld2, fld3]⟩ : Typ) (setL q) 1 4 0) 1 3 7) = 0))) (show _ = (.bool (decide ((mayL (⟨[fld1, fld2, fld3]⟩ : Typ) (doL (⟨[fld1, fld2, fld3]⟩ : Typ) (setL q) 1 4 0) 1 3 7) = 0)) : Value) from e258) (fun vals' hv _ => ⟨rfl, hv⟩)
      · intro k196 vals w197 h200 h201 hW199 hA198
        obtain rfl : k196 = 2 := Nat.le_antisymm h201 h200
        obtain ⟨v156, he161, he181, hS202⟩ : ∃ (v156 : Value), (vals 3 = (v156 : Value)) ∧ (vals 4 = (.int .i64 (mayL (⟨[fld1, fld2, fld3]⟩ : Typ) (doL (⟨[fld1, fld2, fld3]⟩ : Typ) (setL q) 1 4 0) 1 3 7) : Value)) ∧ Sep G61 w58 ((RowE (α := Cel) own 47 v156 (doL (⟨[fld1, fld2, fld3]⟩ : Typ) (setL q) 1 4 0)) :: (RowE (α := Cel) own 47 vc2 (setL q)) :: (RowE (α := Int) own 3 (.slice (some ⟨b57, 0, none⟩) 7 7) nums7) :: (Blk b35 #[v47] 31) :: (Blk b28 ((⟨[fld1, fld2, fld3]⟩ : Typ).cells (.slice (some ⟨bf2, 0, none⟩) 3 3)).toArray 31) :: (Blk bt1 #[(.slice (some ⟨bf2, 0, none⟩) 3 3)] 31) :: Rs) w197 := hW199
        have e203 : vals 6 = (.bool (decide ((mayL (⟨[fld1, fld2, fld3]⟩ : Typ) (doL (⟨[fld1, fld2, fld3]⟩ : Typ) (setL q) 1 4 0) 1 3 7) = 0)) : Value) := hA198 6 (by decide)
        refine oblc rfl rfl (show _ = (.bool (decide ((mayL (⟨[fld1, fld2, fld3]⟩ : Typ) (doL (⟨[fld1, fld2, fld3]⟩ : Typ) (setL q) 1 4 0) 1 3 7) = 0)) : Value) from e203) (fun hb204 => ?_) (fun hb204 vals' hv hv' => ?_)
        · skip
          have hl205 : (decide ((mayL (⟨[fld1, fld2, fld3]⟩ : Typ) (doL (⟨[fld1, fld2, fld3]⟩ : Typ) (setL q) 1 4 0) 1 3 7) = 0)) = true := hb204
          have hl205 := of_decide_eq_true hl205
          refine (ov_call (f := 7) (vals := []) (cap := []) (show _ = (.func (.func 7) #[] #[] : Value) from rfl) rfl Try.call7 (D_known  hS202) ?_)
          rintro _ w206 ⟨rfl, hS207⟩
          intro vals' hv hv'
          refine ⟨?_, trivial⟩
          show ∃ (v156 : Value), (vals' 3 = (v156 : Value)) ∧ (vals' 4 = (.int .i64 (mayL (⟨[fld1, fld2, fld3]⟩ : Typ) (doL (⟨[fld1, fld2, fld3]⟩ : Typ) (setL q) 1 4 0) 1 3 7) : Value)) ∧ (vals' 7 = (if (decide ((mayL (⟨[fld1, fld2, fld3]⟩ : Typ) (doL (⟨[fld1, fld2, fld3]⟩ : Typ) (setL q) 1 4 0) 1 3 7) = 0)) = true then (.bool true : Value) else undef)) ∧ Sep G61 w58 ((RowE (α := Cel) own 47 v156 (doL (⟨[fld1, fld2, fld3]⟩ : Typ) (setL q) 1 4 0)) :: (RowE (α := Cel) own 47 vc2 (setL q)) :: (RowE (α := Int) own 3 (.slice (some ⟨b57, 0, none⟩) 7 7) nums7) :: (Blk b35 #[v47] 31) :: (Blk b28 ((⟨[fld1, fld2, fld3]⟩ : Typ).cells (.slice (some ⟨bf2, 0, none⟩) 3 3)).toArray 31) :: (Blk bt1 #[(.slice (some ⟨bf2, 0, none⟩) 3 3)] 31) :: Rs) w206
          exact ⟨v156, (by rw [hv' 3 (by decide)]; exact he161), (by rw [hv' 4 (by decide)]; exact he181), (hv.trans (if_pos hb204).symm), hS207⟩
        · skip
          refine ⟨?_, trivial⟩
          show ∃ (v156 : Value), (vals' 3 = (v156 : Value)) ∧ (vals' 4 = (.int .i64 (mayL (⟨[fld1, fld2, fld3]⟩ : Typ) (doL (⟨[fld1, fld2, fld3]⟩ : Typ) (setL q) 1 4 0) 1 3 7) : Value)) ∧ (vals' 7 = (if (decide ((mayL (⟨[fld1, fld2, fld3]⟩ : Typ) (doL (⟨[fld1, fld2, fld3]⟩ : Typ) (setL q) 1 4 0) 1 3 7) = 0)) = true then (.bool true : Value) else undef)) ∧ Sep G61 w58 ((RowE (α := Cel) own 47 v156 (doL (⟨[fld1, fld2, fld3]⟩ : Typ) (setL q) 1 4 0)) :: (RowE (α := Cel) own 47 vc2 (setL q)) :: (RowE (α := Int) own 3 (.slice (some ⟨b57, 0, none⟩) 7 7) nums7) :: (Blk b35 #[v47] 31) :: (Blk b28 ((⟨[fld1, fld2, fld3]⟩ : Typ).cells (.slice (some ⟨bf2, 0, none⟩) 3 3)).toArray 31) :: (Blk bt1 #[(.slice (some ⟨bf2, 0, none⟩) 3 3)] 31) :: Rs) w197
          exact ⟨v156, (by rw [hv' 3 (by decide)]; exact he161), (by rw [hv' 4 (by decide)]; exact he181), (hv.trans (if_neg hb204).symm), hS202⟩
      · intro k259 vals w260 h263 h264 hW262 hA261
        obtain rfl : k259 = 3 := Nat.le_antisymm h264 h263
        obtain ⟨v156, he161, he181, he208, hS265⟩ : ∃ (v156 : Value), (vals 3 = (v156 : Value)) ∧ (vals 4 = (.int .i64 (mayL (⟨[fld1, fld2, fld3]⟩ : Typ) (doL (⟨[fld1, fld2, fld3]⟩ : Typ) (setL q) 1 4 0) 1 3 7) : Value)) ∧ (vals 7 = (if (decide ((mayL (⟨[fld1, fld2, fld3]⟩ : Typ) (doL (⟨[fld1, fld2, fld3]⟩ : Typ) (setL q) 1 4 0) 1 3 7) = 0)) = true then (.bool true : Value) else undef)) ∧ Sep G61 w58 ((RowE (α := Cel) own 47 v156 (doL (⟨[fld1, fld2, fld3]⟩ : Typ) (setL q) 1 4 0)) :: (RowE (α := Cel) own 47 vc2 (setL q)) :: (RowE (α := Int) own 3 (.slice (some ⟨b57, 0, none⟩) 7 7) nums7) :: (Blk b35 #[v47] 31) :: (Blk b28 ((⟨[fld1, fld2, fld3]⟩ : Typ).cells (.slice (some ⟨bf2, 0, none⟩) 3 3)).toArray 31) :: (Blk bt1 #[(.slice (some ⟨bf2, 0, none⟩) 3 3)] 31) :: Rs) w260 := hW262
        have e266 : vals 6 = (.bool (decide ((mayL (⟨[fld1, fld2, fld3]⟩ : Typ) (doL (⟨[fld1, fld2, fld3]⟩ : Typ) (setL q) 1 4 0) 1 3 7) = 0)) : Value) := hA261 6 (by decide)
        refine obl rfl ?_
        exact ov_pick_and (b := decide ((mayL (⟨[fld1, fld2, fld3]⟩ : Typ) (doL (⟨[fld1, fld2, fld3]⟩ : Typ) (setL q) 1 4 0) 1 3 7) = 0)) (b' := true) (show _ = (.bool (decide ((mayL (⟨[fld1, fld2, fld3]⟩ : Typ) (doL (⟨[fld1, fld2, fld3]⟩ : Typ) (setL q) 1 4 0) 1 3 7) = 0)) : Value) from e266) (fun hbp => (show _ = (.bool true : Value) from (Eq.trans he208 (if_pos hbp)))) (fun vals' hv _ => ⟨rfl, hv⟩)
      · intro k267 vals w268 h271 h272 hW270 hA269
        have e273 : vals 8 = (.bool ((decide ((mayL (⟨[fld1, fld2, fld3]⟩ : Typ) (doL (⟨[fld1, fld2, fld3]⟩ : Typ) (setL q) 1 4 0) 1 3 7) = 0)) && true) : Value) := hA269 8 (by decide)
        refine obl rfl ?_
        exact ov_assign (v := .bool ((decide ((mayL (⟨[fld1, fld2, fld3]⟩ : Typ) (doL (⟨[fld1, fld2, fld3]⟩ : Typ) (setL q) 1 4 0) 1 3 7) = 0)) && true)) (show _ = (.bool ((decide ((mayL (⟨[fld1, fld2, fld3]⟩ : Typ) (doL (⟨[fld1, fld2, fld3]⟩ : Typ) (setL q) 1 4 0) 1 3 7) = 0)) && true) : Value) from e273) (fun vals' hv _ => ⟨rfl, hv⟩)
      intro vals w274 hW275 hA276
      obtain ⟨v156, he161, he181, he208, hS277⟩ : ∃ (v156 : Value), (vals 3 = (v156 : Value)) ∧ (vals 4 = (.int .i64 (mayL (⟨[fld1, fld2, fld3]⟩ : Typ) (doL (⟨[fld1, fld2, fld3]⟩ : Typ) (setL q) 1 4 0) 1 3 7) : Value)) ∧ (vals 7 = (if (decide ((mayL (⟨[fld1, fld2, fld3]⟩ : Typ) (doL (⟨[fld1, fld2, fld3]⟩ : Typ) (setL q) 1 4 0) 1 3 7) = 0)) = true then (.bool true : Value) else undef)) ∧ Sep G61 w58 ((RowE (α := Cel) own 47 v156 (doL (⟨[fld1, fld2, fld3]⟩ : Typ) (setL q) 1 4 0)) :: (RowE (α := Cel) own 47 vc2 (setL q)) :: (RowE (α := Int) own 3 (.slice (some ⟨b57, 0, none⟩) 7 7) nums7) :: (Blk b35 #[v47] 31) :: (Blk b28 ((⟨[fld1, fld2, fld3]⟩ : Typ).cells (.slice (some ⟨bf2, 0, none⟩) 3 3)).toArray 31) :: (Blk bt1 #[(.slice (some ⟨bf2, 0, none⟩) 3 3)] 31) :: Rs) w274 := hW275
      have e278 : vals 9 = (.bool ((decide ((mayL (⟨[fld1, fld2, fld3]⟩ : Typ) (doL (⟨[fld1, fld2, fld3]⟩ : Typ) (setL q) 1 4 0) 1 3 7) = 0)) && true) : Value) := hA276 9 (by decide)
      refine st_env (kv := [(1, .pointer (some ⟨b28, 0, none⟩)), (9, .int .i64 ((q : Nat) : Int)), (8, vc2), (102, .int .i64 ((q : Nat) : Int)), (103, .bool false), (117, .agg ((⟨[fld1, fld2, fld3]⟩ : Typ).cells (.slice (some ⟨bf2, 0, none⟩) 3 3)).toArray), (118, vc2), (119, .int .i64 (mayL (⟨[fld1, fld2, fld3]⟩ : Typ) (setL q) 1 3 7)), (120, .bool false), (121, .bool false), (122, .agg ((⟨[fld1, fld2, fld3]⟩ : Typ).cells (.slice (some ⟨bf2, 0, none⟩) 3 3)).toArray), (123, vc2), (124, .int .i64 (mayL (⟨[fld1, fld2, fld3]⟩ : Typ) (setL q) 1 3 5)), (125, .bool false), (126, .bool false), (127, .bool false), (128, .agg ((⟨[fld1, fld2, fld3]⟩ : Typ).cells (.slice (some ⟨bf2, 0, none⟩) 3 3)).toArray), (129, vc2), (130, .int .i64 (mayL (⟨[fld1, fld2, fld3]⟩ : Typ) (setL q) 1 4 7)), (131, .bool false), (132, .bool false), (0, .bool ((decide ((mayL (⟨[fld1, fld2, fld3]⟩ : Typ) (doL (⟨[fld1, fld2, fld3]⟩ : Typ) (setL q) 1 4 0) 1 3 7) = 0)) && true))]) ⟨rfl, rfl, rfl, rfl, rfl, rfl, rfl, rfl, rfl, rfl, rfl, rfl, rfl, rfl, rfl, rfl, rfl, rfl, rfl, rfl, rfl, (by exact e278), trivial⟩ (fun ρw274 => ?_)
      refine st_nil ?_
      refine WP_ret ?_
      refine fin1 Try.results4 (show _ = (.bool ((decide ((mayL (⟨[fld1, fld2, fld3]⟩ : Typ) (doL (⟨[fld1, fld2, fld3]⟩ : Typ) (setL q) 1 4 0) 1 3 7) = 0)) && true) : Value) from rfl) ?_
      have hS279 : Sep G19 w4 ((RowE (α := Fld) (shr G19 w4) 36 v47 ([(⟨1, 1, false, []⟩ : Fld)] ++ [fld1, fld2, fld3].drop 1)) :: (RowE (α := Cel) own 47 v156 (doL (⟨[fld1, fld2, fld3]⟩ : Typ) (setL q) 1 4 0)) :: (RowE (α := Cel) own 47 vc2 (setL q)) :: (RowE (α := Int) own 3 (.slice (some ⟨b57, 0, none⟩) 7 7) nums7) :: (Blk b35 #[v47] 31) :: (Blk b28 ((⟨[fld1, fld2, fld3]⟩ : Typ).cells (.slice (some ⟨bf2, 0, none⟩) 3 3)).toArray 31) :: (Blk bt1 #[(.slice (some ⟨bf2, 0, none⟩) 3 3)] 31) :: Rs) w274 := hk66 _ _ hS277
      have hS280 : Sep G9 w4 ((RowE (α := Fld) (shr G9 w4) 36 (.slice (some ⟨bf2, 0, none⟩) 3 3) [fld1, fld2, fld3]) :: (RowE (α := Fld) (shr G19 w4) 36 v47 ([(⟨1, 1, false, []⟩ : Fld)] ++ [fld1, fld2, fld3].drop 1)) :: (RowE (α := Cel) own 47 v156 (doL (⟨[fld1, fld2, fld3]⟩ : Typ) (setL q) 1 4 0)) :: (RowE (α := Cel) own 47 vc2 (setL q)) :: (RowE (α := Int) own 3 (.slice (some ⟨b57, 0, none⟩) 7 7) nums7) :: (Blk b35 #[v47] 31) :: (Blk b28 ((⟨[fld1, fld2, fld3]⟩ : Typ).cells (.slice (some ⟨bf2, 0, none⟩) 3 3)).toArray 31) :: (Blk bt1 #[(.slice (some ⟨bf2, 0, none⟩) 3 3)] 31) :: Rs) w274 := hk24 _ _ hS279
      have hS281 : Sep G W ((RowE (α := Mv) own 49 (.slice (some ⟨bm3, 0, none⟩) 2 2) [(⟨0, 1, 0, 2⟩ : Mv), (⟨1, 0, -1, 0⟩ : Mv)]) :: (RowE (α := Fld) (shr G9 w4) 36 (.slice (some ⟨bf2, 0, none⟩) 3 3) [fld1, fld2, fld3]) :: (RowE (α := Fld) (shr G19 w4) 36 v47 ([(⟨1, 1, false, []⟩ : Fld)] ++ [fld1, fld2, fld3].drop 1)) :: (RowE (α := Cel) own 47 v156 (doL (⟨[fld1, fld2, fld3]⟩ : Typ) (setL q) 1 4 0)) :: (RowE (α := Cel) own 47 vc2 (setL q)) :: (RowE (α := Int) own 3 (.slice (some ⟨b57, 0, none⟩) 7 7) nums7) :: (Blk b35 #[v47] 31) :: (Blk b28 ((⟨[fld1, fld2, fld3]⟩ : Typ).cells (.slice (some ⟨bf2, 0, none⟩) 3 3)).toArray 31) :: (Blk bt1 #[(.slice (some ⟨bf2, 0, none⟩) 3 3)] 31) :: Rs) w274 := hk14 _ _ hS280
      have hS282 : Sep G W Rs w274 := hS281.sel 9 [] (Nat.le_add_left _ _) rfl rfl
      refine ⟨?_, hS282⟩
      exact congrArg Value.bool (by first | rfl | (rw [h64]; decide +kernel))
    · skip
      have hc86 := of_decide_eq_true hc86
      refine WP_cond_t rfl ?_
      refine WP_skip ?_
      refine WP_seq ?_
      refine WP_block ?_
      refine WP_seq ?_
      refine WP_seq ?_
      refine WP_region0 (by kernel_rfl) (fun _ => ?_)
      refine st (ov_loadk (k := 1) Try.isAgg31 Try.sizeOf31 rfl rfl (CellsAt.all (hS84.blk (i := 3) rfl)) ?_)
      refine st (ov_move (v := vc2) rfl ?_)
      refine st (ov_move (v := .int .i64 ((q : Nat) : Int)) rfl ?_)
      have hr283 : InR ((5 * q : Nat) : Int) := by first | omega | (simp only [lens]; omega)
      refine st (ov_mul (r := ((5 * q : Nat) : Int)) (k := .i64) (a := 5) (b := ((q : Nat) : Int)) rfl rfl (by rw [show (5 * ((q : Nat) : Int) : Int) = ((5 * q : Nat) : Int) by first | omega | (simp only [lens]; omega)]; exact wrap_in hr283) ?_)
      obtain ⟨G284, hA286, hB287, hS288, hk289⟩ := hS84.lend
      have hrd290 := RowE.rd hA286
      have hrd290s : (setL q).length * 32 ≤ 140737488355328 := hrd290.small
      refine st (ov_call (f := 10) (vals := [.agg ((⟨[fld1, fld2, fld3]⟩ : Typ).cells (.slice (some ⟨bf2, 0, none⟩) 3 3)).toArray, vc2, .int .i64 (1), .int .i64 (3), .int .i64 ((5 * q : Nat) : Int)]) (cap := []) (show _ = (.func (.func 10) #[] #[] : Value) from rfl) rfl Try.call10 (D_May (t := (⟨[fld1, fld2, fld3]⟩ : Typ)) (c := setL q) (vc := vc2) (f := 1) (op := 3) (arg := ((5 * q : Nat) : Int)) (RdS.base (RdS.base hrd25 hB64) hB287) ok26 hrd290 (by decide) (by decide) hr283 hS288 ((by first | exact set_ask q (by omega) | (rw [h64]; decide +kernel) | exact ⟨by decide +kernel, by decide +kernel, by first | omega | decide +kernel | (rw [List.length_set]; decide +kernel), fun h => by omega, fun h => by omega⟩))) ?_)
      rintro _ w291 ⟨rfl, hS292⟩
      have hS293 : Sep G61 w58 ((RowE (α := Cel) own 47 vc2 (setL q)) :: (RowE (α := Int) own 3 (.slice (some ⟨b57, 0, none⟩) 7 7) nums7) :: (Blk b35 #[v47] 31) :: (Blk b28 ((⟨[fld1, fld2, fld3]⟩ : Typ).cells (.slice (some ⟨bf2, 0, none⟩) 3 3)).toArray 31) :: (Blk bt1 #[(.slice (some ⟨bf2, 0, none⟩) 3 3)] 31) :: Rs) w291 := hk289 _ _ hS292
      refine st (ov_neq (k := .i64) (a := mayL (⟨[fld1, fld2, fld3]⟩ : Typ) (setL q) 1 3 ((5 * q : Nat) : Int)) (b := 0) rfl rfl ?_)
      have hkn294 : (!decide ((mayL (⟨[fld1, fld2, fld3]⟩ : Typ) (setL q) 1 3 ((5 * q : Nat) : Int)) = 0)) = false := (by rw [set_may q (by omega)]; rfl)
      rw [hkn294]
      refine st_nil ?_
      refine WP_cond_f rfl ?_
      refine WP_skip ?_
      refine WP_region0 (by kernel_rfl) (fun _ => ?_)
      refine st (ov_loadk (k := 1) Try.isAgg31 Try.sizeOf31 rfl rfl (CellsAt.all (hS293.blk (i := 3) rfl)) ?_)
      refine st (ov_move (v := vc2) rfl ?_)
      refine st (ov_move (v := .int .i64 ((q : Nat) : Int)) rfl ?_)
      have hr295 : InR ((5 * q : Nat) : Int) := by first | omega | (simp only [lens]; omega)
      refine st (ov_mul (r := ((5 * q : Nat) : Int)) (k := .i64) (a := 5) (b := ((q : Nat) : Int)) rfl rfl (by rw [show (5 * ((q : Nat) : Int) : Int) = ((5 * q : Nat) : Int) by first | omega | (simp only [lens]; omega)]; exact wrap_in hr295) ?_)
      obtain ⟨G296, hA298, hB299, hS300, hk301⟩ := hS293.lend
      have hrd302 := RowE.rd hA298
      have hrd302s : (setL q).length * 32 ≤ 140737488355328 := hrd302.small
      refine st (ov_call (f := 11) (vals := [.agg ((⟨[fld1, fld2, fld3]⟩ : Typ).cells (.slice (some ⟨bf2, 0, none⟩) 3 3)).toArray, vc2, .int .i64 (1), .int .i64 (3), .int .i64 ((5 * q : Nat) : Int)]) (cap := []) (show _ = (.func (.func 11) #[] #[] : Value) from rfl) rfl Try.call11 (D_Do (t := (⟨[fld1, fld2, fld3]⟩ : Typ)) (c := setL q) (vc := vc2) (f := 1) (op := 3) (arg := ((5 * q : Nat) : Int)) (RdS.base (RdS.base hrd25 hB64) hB299) ok26 hrd302 (by decide) (by decide) hr295 hS300 ((by first | exact set_ask q (by omega) | (rw [h64]; decide +kernel) | exact ⟨by decide +kernel, by decide +kernel, by first | omega | decide +kernel | (rw [List.length_set]; decide +kernel), fun h => by omega, fun h => by omega⟩)) ((by first | exact set_few q (by omega) | (rw [h64]; decide +kernel)))) ?_)
      rintro v303 w304 ⟨_, rfl, hS305⟩
      have hr306 := hS305.row (i := 0) rfl
      have hr306s : (doL (⟨[fld1, fld2, fld3]⟩ : Typ) (setL q) 1 3 ((5 * q : Nat) : Int)).length * 32 ≤ 140737488355328 := hr306.2
      have hS307 : Sep G61 w58 ((RowE (α := Cel) own 47 vc2 (setL q)) :: (RowE (α := Cel) own 47 v303 (doL (⟨[fld1, fld2, fld3]⟩ : Typ) (setL q) 1 3 ((5 * q : Nat) : Int))) :: (RowE (α := Int) own 3 (.slice (some ⟨b57, 0, none⟩) 7 7) nums7) :: (Blk b35 #[v47] 31) :: (Blk b28 ((⟨[fld1, fld2, fld3]⟩ : Typ).cells (.slice (some ⟨bf2, 0, none⟩) 3 3)).toArray 31) :: (Blk bt1 #[(.slice (some ⟨bf2, 0, none⟩) 3 3)] 31) :: Rs) w304 := hk301 _ _ hS305
      refine st (ov_assign (v := v303) rfl ?_)
      refine st_nil ?_
      refine WP_region0 (by kernel_rfl) (fun _ => ?_)
      refine st (ov_move (v := .int .i64 ((q : Nat) : Int)) rfl ?_)
      have hr308 : InR ((q + 1 : Nat) : Int) := by first | omega | (simp only [lens]; omega)
      refine st (ov_add (r := ((q + 1 : Nat) : Int)) (k := .i64) (a := ((q : Nat) : Int)) (b := 1) rfl rfl (by rw [show (((q : Nat) : Int) + 1 : Int) = ((q + 1 : Nat) : Int) by first | omega | (simp only [lens]; omega)]; exact wrap_in hr308) ?_)
      refine st (ov_assign (v := .int .i64 ((q + 1 : Nat) : Int)) rfl ?_)
      refine st_nil ?_
      have hS309 : Sep G61 w58 ((RowE (α := Cel) own 47 v303 (doL (⟨[fld1, fld2, fld3]⟩ : Typ) (setL q) 1 3 ((5 * q : Nat) : Int))) :: (RowE (α := Int) own 3 (.slice (some ⟨b57, 0, none⟩) 7 7) nums7) :: (Blk b35 #[v47] 31) :: (Blk b28 ((⟨[fld1, fld2, fld3]⟩ : Typ).cells (.slice (some ⟨bf2, 0, none⟩) 3 3)).toArray 31) :: (Blk bt1 #[(.slice (some ⟨bf2, 0, none⟩) 3 3)] 31) :: Rs) w304 := hS307.sel 6 [1, 2, 3, 4, 5] (Nat.le_add_left _ _) rfl rfl
      have hL310 : setL (q + 1) = (doL (⟨[fld1, fld2, fld3]⟩ : Typ) (setL q) 1 3 ((5 * q : Nat) : Int)) := (set_step q (by omega))
      rw [← hL310] at hS309
      exact ⟨_, by omega, q + 1, v303, _, rfl, setAll_self ⟨rfl, rfl, rfl, trivial⟩, by omega, hS309⟩
  · skip
    have hc76 := of_decide_eq_true hc76
    refine WP_cond_t rfl ?_
    refine WP_skip ?_
    refine WP_seq ?_
    refine WP_block ?_
    refine WP_seq ?_
    refine WP_region0 (by kernel_rfl) (fun _ => ?_)
    refine st (ov_assign (v := .int .i64 (0)) rfl ?_)
    refine st_nil ?_
    refine WP_block ?_
    refine WP_loop (fun mq σ wq => ∃ (j : Nat) (ρ : Env), mq = 7 - j ∧ σ = setAll ρ [(1, .pointer (some ⟨b28, 0, none⟩)), (2, .pointer (some ⟨b35, 0, none⟩)), (3, (.slice (some ⟨b57, 0, none⟩) 7 7)), (4, .int .i64 ((k : Nat) : Int)), (5, .int .i64 ((j : Nat) : Int))] ∧ (j ≤ 7) ∧ Sep G61 w58 ((RowE (α := Int) own 3 (.slice (some ⟨b57, 0, none⟩) 7 7) nums7) :: (Blk b35 #[v47] 31) :: (Blk b28 ((⟨[fld1, fld2, fld3]⟩ : Typ).cells (.slice (some ⟨bf2, 0, none⟩) 3 3)).toArray 31) :: (Blk bt1 #[(.slice (some ⟨bf2, 0, none⟩) 3 3)] 31) :: Rs) wq) ⟨0, _, rfl, setAll_self ⟨rfl, rfl, rfl, rfl, rfl, trivial⟩, Nat.zero_le _, hS75⟩ ?_
    rintro m312 σ313 w311 ⟨j, ρl3, rfl, rfl, hkj, hS314⟩
    refine WP_seq ?_
    refine WP_seq ?_
    refine WP_region0 (by kernel_rfl) (fun _ => ?_)
    refine st (ov_move (v := .int .i64 ((j : Nat) : Int)) rfl ?_)
    refine st (ov_move (v := (.slice (some ⟨b57, 0, none⟩) 7 7)) rfl ?_)
    refine st (ov_len (n := nums7.length) Try.underlying44 rfl hr71.1 ?_)
    refine st (ov_lss (k := .i64) (a := ((j : Nat) : Int)) (b := ((nums7.length : Nat) : Int)) rfl rfl ?_)
    refine st_nil ?_
    cases hc315 : decide (((j : Nat) : Int) < ((nums7.length : Nat) : Int))
    · skip
      have hc315 := of_decide_eq_false hc315
      refine WP_cond_f rfl ?_
      refine WP_exit ?_
      refine blk_exit ?_
      refine WP_region0 (by kernel_rfl) (fun _ => ?_)
      refine st (ov_move (v := .int .i64 ((k : Nat) : Int)) rfl ?_)
      have hr316 : InR ((k + 1 : Nat) : Int) := by first | omega | (simp only [lens]; omega)
      refine st (ov_add (r := ((k + 1 : Nat) : Int)) (k := .i64) (a := ((k : Nat) : Int)) (b := 1) rfl rfl (by rw [show (((k : Nat) : Int) + 1 : Int) = ((k + 1 : Nat) : Int) by first | omega | (simp only [lens]; omega)]; exact wrap_in hr316) ?_)
      refine st (ov_assign (v := .int .i64 ((k + 1 : Nat) : Int)) rfl ?_)
      refine st_nil ?_
      exact ⟨_, by omega, k + 1, _, rfl, setAll_self ⟨rfl, rfl, rfl, rfl, trivial⟩, by omega, hS314⟩
    · skip
      have hc315 := of_decide_eq_true hc315
      refine WP_cond_t rfl ?_
      refine WP_skip ?_
      refine WP_seq ?_
      refine WP_block ?_
      refine WP_seq ?_
      refine WP_region0 (by kernel_rfl) (fun _ => ?_)
      have ok317 : Typ.Ok (⟨[(⟨1, 1, false, []⟩ : Fld)] ++ [fld1, fld2, fld3].drop 1⟩ : Typ) := ⟨⟩
      refine st (ov_loadk (k := 1) Try.isAgg31 Try.sizeOf31 rfl rfl (CellsAt.all (hS314.blk (i := 1) rfl)) ?_)
      refine st (ov_call (f := 15) (vals := [.agg ((⟨[(⟨1, 1, false, []⟩ : Fld)] ++ [fld1, fld2, fld3].drop 1⟩ : Typ).cells v47).toArray]) (cap := []) (show _ = (.func (.func 15) #[] #[] : Value) from rfl) rfl Try.call15 (D_New (t := (⟨[(⟨1, 1, false, []⟩ : Fld)] ++ [fld1, fld2, fld3].drop 1⟩ : Typ)) hrd67 ok317 hS314) ?_)
      rintro v318 w319 ⟨_, rfl, hS320⟩
      have hr321 := hS320.row (i := 0) rfl
      have hr321s : (List.replicate (⟨[(⟨1, 1, false, []⟩ : Fld)] ++ [fld1, fld2, fld3].drop 1⟩ : Typ).fields.length (⟨0, []⟩ : Cel)).length * 32 ≤ 140737488355328 := hr321.2
      refine st (ov_assign (v := v318) rfl ?_)
      refine st_nil ?_
      refine WP_seq ?_
      refine WP_seq ?_
      refine WP_region0 (by kernel_rfl) (fun _ => ?_)
      refine st (ov_move (v := v318) rfl ?_)
      refine st (ov_len (n := (List.replicate (⟨[(⟨1, 1, false, []⟩ : Fld)] ++ [fld1, fld2, fld3].drop 1⟩ : Typ).fields.length (⟨0, []⟩ : Cel)).length) Try.underlying26 rfl hr321.1 ?_)
      refine st (ov_neq (k := .i64) (a := (((List.replicate (⟨[(⟨1, 1, false, []⟩ : Fld)] ++ [fld1, fld2, fld3].drop 1⟩ : Typ).fields.length (⟨0, []⟩ : Cel)).length : Nat) : Int)) (b := 3) rfl rfl ?_)
      have hkn322 : (!decide ((((List.replicate (⟨[(⟨1, 1, false, []⟩ : Fld)] ++ [fld1, fld2, fld3].drop 1⟩ : Typ).fields.length (⟨0, []⟩ : Cel)).length : Nat) : Int) = 3)) = false := (by decide +kernel)
      rw [hkn322]
      refine st_nil ?_
      refine WP_cond_f rfl ?_
      refine WP_skip ?_
      refine WP_seq ?_
      refine WP_region0 (by kernel_rfl) (fun _ => ?_)
      refine st (ov_move (v := v318) rfl ?_)
      refine st (ov_move (v := (.slice (some ⟨b57, 0, none⟩) 7 7)) rfl ?_)
      refine st (ov_move (v := .int .i64 ((k : Nat) : Int)) rfl ?_)
      have hi323 : k < nums7.length := (by first | omega | decide +kernel)
      refine st (ov_indexAddrN (k := 1) (i := k) Try.underlying44 Try.sizeOf3 rfl hr71.1 rfl hi323 ?_)
      have hi325 : k < nums7.length := (by first | omega | decide +kernel)
      obtain ⟨_, _, hce324, rfl, hxe324⟩ := hS320.rowAt (i := 1) (j := k) rfl hi325
      rw [← getD_at 0 hi325] at hce324 hxe324
      refine st (ov_load1 (v := .int .i64 ((nums7.getD k 0))) Try.isAgg3 rfl (hce324.get (j := 0) rfl) ?_)
      have hi326 : 0 < (List.replicate (⟨[(⟨1, 1, false, []⟩ : Fld)] ++ [fld1, fld2, fld3].drop 1⟩ : Typ).fields.length (⟨0, []⟩ : Cel)).length := (by first | omega | decide +kernel)
      refine st (ov_indexAddrN (k := 2) (i := 0) Try.underlying26 Try.sizeOf47 rfl hr321.1 rfl hi326 ?_)
      refine st (fd47_0 rfl ?_)
      have hS328 : Sep G61 w58 ((RowE (α := Cel) own 47 v318 (List.replicate (⟨[(⟨1, 1, false, []⟩ : Fld)] ++ [fld1, fld2, fld3].drop 1⟩ : Typ).fields.length (⟨0, []⟩ : Cel))) :: Emp :: (RowE (α := Int) own 3 (.slice (some ⟨b57, 0, none⟩) 7 7) nums7) :: (Blk b35 #[v47] 31) :: (Blk b28 ((⟨[fld1, fld2, fld3]⟩ : Typ).cells (.slice (some ⟨bf2, 0, none⟩) 3 3)).toArray 31) :: (Blk bt1 #[(.slice (some ⟨bf2, 0, none⟩) 3 3)] 31) :: Rs) w319 := hS320.emp1
      refine stn (ov_storeS (α := Cel) (j := 0) (o := 0) (u := .int .i64 ((nums7.getD k 0))) (us := [.int .i64 ((nums7.getD k 0))]) (x1 := ({ ((List.replicate (⟨[(⟨1, 1, false, []⟩ : Fld)] ++ [fld1, fld2, fld3].drop 1⟩ : Typ).fields.length (⟨0, []⟩ : Cel)).getD 0 default) with n := (nums7.getD k 0) } : Cel)) hS328 Try.sizeOf3 (by first | omega | (simp only [lens]; omega)) rfl rfl rfl (Nat.le_of_ble_eq_true rfl) (all1 ⟨rfl, trivial⟩) (fun _ _ _ hel _ => (by rw [← getD_at default (by omega)] at hel; obtain ⟨d0, rfl, h0, hok⟩ := hel; exact ⟨_, rfl, h0, ⟨hxe324⟩⟩)) ?_)
      intro w327 hS329
      have hr330 := hS329.row (i := 0) rfl
      have hr330s : ((List.replicate (⟨[(⟨1, 1, false, []⟩ : Fld)] ++ [fld1, fld2, fld3].drop 1⟩ : Typ).fields.length (⟨0, []⟩ : Cel)).set 0 ({ ((List.replicate (⟨[(⟨1, 1, false, []⟩ : Fld)] ++ [fld1, fld2, fld3].drop 1⟩ : Typ).fields.length (⟨0, []⟩ : Cel)).getD 0 default) with n := (nums7.getD k 0) } : Cel)).length * 32 ≤ 140737488355328 := hr330.2
      refine st_nil ?_
      refine WP_seq ?_
      refine WP_draw4 (WF [fun vals wq => Sep G61 w58 ((RowE (α := Cel) own 47 v318 ((List.replicate (⟨[(⟨1, 1, false, []⟩ : Fld)] ++ [fld1, fld2, fld3].drop 1⟩ : Typ).fields.length (⟨0, []⟩ : Cel)).set 0 ({ ((List.replicate (⟨[(⟨1, 1, false, []⟩ : Fld)] ++ [fld1, fld2, fld3].drop 1⟩ : Typ).fields.length (⟨0, []⟩ : Cel)).getD 0 default) with n := (nums7.getD k 0) } : Cel))) :: (RowE (α := Int) own 3 (.slice (some ⟨b57, 0, none⟩) 7 7) nums7) :: (Blk b35 #[v47] 31) :: (Blk b28 ((⟨[fld1, fld2, fld3]⟩ : Typ).cells (.slice (some ⟨bf2, 0, none⟩) 3 3)).toArray 31) :: (Blk bt1 #[(.slice (some ⟨bf2, 0, none⟩) 3 3)] 31) :: Rs) wq]) (AF [fun vals => vals 0 = ((.slice (some ⟨b57, 0, none⟩) 7 7) : Value), fun vals => vals 1 = (.int .i64 ((k : Nat) : Int) : Value), fun vals => vals 2 = (.pointer (some ⟨sb (.slice (some ⟨b57, 0, none⟩) 7 7), so (.slice (some ⟨b57, 0, none⟩) 7 7) + k * 1, none⟩) : Value), fun vals => vals 3 = (.int .i64 ((nums7.getD k 0)) : Value), fun vals => vals 4 = (.bool (decide (0 < (nums7.getD k 0))) : Value), fun vals => vals 5 = (.bool (decide (0 < (nums7.getD k 0))) : Value), fun vals => vals 6 = (if (decide (0 < (nums7.getD k 0))) = true then ((.slice (some ⟨b57, 0, none⟩) 7 7) : Value) else undef), fun vals => vals 7 = (if (decide (0 < (nums7.getD k 0))) = true then (.int .i64 ((j : Nat) : Int) : Value) else undef), fun vals => vals 8 = (if (decide (0 < (nums7.getD k 0))) = true then (.pointer (some ⟨sb (.slice (some ⟨b57, 0, none⟩) 7 7), so (.slice (some ⟨b57, 0, none⟩) 7 7) + j * 1, none⟩) : Value) else undef), fun vals => vals 9 = (if (decide (0 < (nums7.getD k 0))) = true then (.int .i64 ((nums7.getD j 0)) : Value) else undef), fun vals => vals 10 = (if (decide (0 < (nums7.getD k 0))) = true then ((.slice (some ⟨b57, 0, none⟩) 7 7) : Value) else undef), fun vals => vals 11 = (if (decide (0 < (nums7.getD k 0))) = true then (.int .i64 ((k : Nat) : Int) : Value) else undef), fun vals => vals 12 = (if (decide (0 < (nums7.getD k 0))) = true then (.pointer (some ⟨sb (.slice (some ⟨b57, 0, none⟩) 7 7), so (.slice (some ⟨b57, 0, none⟩) 7 7) + k * 1, none⟩) : Value) else undef), fun vals => vals 13 = (if (decide (0 < (nums7.getD k 0))) = true then (.int .i64 ((nums7.getD k 0)) : Value) else undef), fun vals => vals 14 = (if (decide (0 < (nums7.getD k 0))) = true then (.int .i64 (IntKind.i64.wrap (9223372036854775807 - (nums7.getD k 0))) : Value) else undef), fun vals => vals 15 = (if (decide (0 < (nums7.getD k 0))) = true then (.bool (decide ((IntKind.i64.wrap (9223372036854775807 - (nums7.getD k 0))) < (nums7.getD j 0))) : Value) else undef), fun vals => vals 16 = (.bool ((decide (0 < (nums7.getD k 0))) && (decide ((IntKind.i64.wrap (9223372036854775807 - (nums7.getD k 0))) < (nums7.getD j 0)))) : Value), fun vals => vals 17 = (.bool ((decide (0 < (nums7.getD k 0))) && (decide ((IntKind.i64.wrap (9223372036854775807 - (nums7.getD k 0))) < (nums7.getD j 0)))) : Value), fun vals => vals 18 = (if ((decide (0 < (nums7.getD k 0))) && (decide ((IntKind.i64.wrap (9223372036854775807 - (nums7.getD k 0))) < (nums7.getD j 0)))) = false then ((.slice (some ⟨b57, 0, none⟩) 7 7) : Value) else undef), fun vals => vals 19 = (if ((decide (0 < (nums7.getD k 0))) && (decide ((IntKind.i64.wrap (9223372036854775807 - (nums7.getD k 0))) < (nums7.getD j 0)))) = false then (.int .i64 ((k : Nat) : Int) : Value) else undef), fun vals => vals 20 = (if ((decide (0 < (nums7.getD k 0))) && (decide ((IntKind.i64.wrap (9223372036854775807 - (nums7.getD k 0))) < (nums7.getD j 0)))) = false then (.pointer (some ⟨sb (.slice (some ⟨b57, 0, none⟩) 7 7), so (.slice (some ⟨b57, 0, none⟩) 7 7) + k * 1, none⟩) : Value) else undef), fun vals => vals 21 = (if ((decide (0 < (nums7.getD k 0))) && (decide ((IntKind.i64.wrap (9223372036854775807 - (nums7.getD k 0))) < (nums7.getD j 0)))) = false then (.int .i64 ((nums7.getD k 0)) : Value) else undef), fun vals => vals 22 = (if ((decide (0 < (nums7.getD k 0))) && (decide ((IntKind.i64.wrap (9223372036854775807 - (nums7.getD k 0))) < (nums7.getD j 0)))) = false then (.bool (decide ((nums7.getD k 0) < 0)) : Value) else undef), fun vals => vals 23 = (if ((decide (0 < (nums7.getD k 0))) && (decide ((IntKind.i64.wrap (9223372036854775807 - (nums7.getD k 0))) < (nums7.getD j 0)))) = false then (.bool (decide ((nums7.getD k 0) < 0)) : Value) else undef), fun vals => vals 24 = (if (((decide (0 < (nums7.getD k 0))) && (decide ((IntKind.i64.wrap (9223372036854775807 - (nums7.getD k 0))) < (nums7.getD j 0)))) = false) ∧ (decide ((nums7.getD k 0) < 0)) = true then ((.slice (some ⟨b57, 0, none⟩) 7 7) : Value) else undef), fun vals => vals 25 = (if (((decide (0 < (nums7.getD k 0))) && (decide ((IntKind.i64.wrap (9223372036854775807 - (nums7.getD k 0))) < (nums7.getD j 0)))) = false) ∧ (decide ((nums7.getD k 0) < 0)) = true then (.int .i64 ((j : Nat) : Int) : Value) else undef), fun vals => vals 26 = (if (((decide (0 < (nums7.getD k 0))) && (decide ((IntKind.i64.wrap (9223372036854775807 - (nums7.getD k 0))) < (nums7.getD j 0)))) = false) ∧ (decide ((nums7.getD k 0) < 0)) = true then (.pointer (some ⟨sb (.slice (some ⟨b57, 0, none⟩) 7 7), so (.slice (some ⟨b57, 0, none⟩) 7 7) + j * 1, none⟩) : Value) else undef), fun vals => vals 27 = (if (((decide (0 < (nums7.getD k 0))) && (decide ((IntKind.i64.wrap (9223372036854775807 - (nums7.getD k 0))) < (nums7.getD j 0)))) = false) ∧ (decide ((nums7.getD k 0) < 0)) = true then (.int .i64 ((nums7.getD j 0)) : Value) else undef), fun vals => vals 28 = (if (((decide (0 < (nums7.getD k 0))) && (decide ((IntKind.i64.wrap (9223372036854775807 - (nums7.getD k 0))) < (nums7.getD j 0)))) = false) ∧ (decide ((nums7.getD k 0) < 0)) = true then ((.slice (some ⟨b57, 0, none⟩) 7 7) : Value) else undef), fun vals => vals 29 = (if (((decide (0 < (nums7.getD k 0))) && (decide ((IntKind.i64.wrap (9223372036854775807 - (nums7.getD k 0))) < (nums7.getD j 0)))) = false) ∧ (decide ((nums7.getD k 0) < 0)) = true then (.int .i64 ((k : Nat) : Int) : Value) else undef), fun vals => vals 30 = (if (((decide (0 < (nums7.getD k 0))) && (decide ((IntKind.i64.wrap (9223372036854775807 - (nums7.getD k 0))) < (nums7.getD j 0)))) = false) ∧ (decide ((nums7.getD k 0) < 0)) = true then (.pointer (some ⟨sb (.slice (some ⟨b57, 0, none⟩) 7 7), so (.slice (some ⟨b57, 0, none⟩) 7 7) + k * 1, none⟩) : Value) else undef), fun vals => vals 31 = (if (((decide (0 < (nums7.getD k 0))) && (decide ((IntKind.i64.wrap (9223372036854775807 - (nums7.getD k 0))) < (nums7.getD j 0)))) = false) ∧ (decide ((nums7.getD k 0) < 0)) = true then (.int .i64 ((nums7.getD k 0)) : Value) else undef), fun vals => vals 32 = (if (((decide (0 < (nums7.getD k 0))) && (decide ((IntKind.i64.wrap (9223372036854775807 - (nums7.getD k 0))) < (nums7.getD j 0)))) = false) ∧ (decide ((nums7.getD k 0) < 0)) = true then (.int .i64 (IntKind.i64.wrap ((-9223372036854775808) - (nums7.getD k 0))) : Value) else undef), fun vals => vals 33 = (if (((decide (0 < (nums7.getD k 0))) && (decide ((IntKind.i64.wrap (9223372036854775807 - (nums7.getD k 0))) < (nums7.getD j 0)))) = false) ∧ (decide ((nums7.getD k 0) < 0)) = true then (.bool (decide ((nums7.getD j 0) < (IntKind.i64.wrap ((-9223372036854775808) - (nums7.getD k 0))))) : Value) else undef), fun vals => vals 34 = (if ((decide (0 < (nums7.getD k 0))) && (decide ((IntKind.i64.wrap (9223372036854775807 - (nums7.getD k 0))) < (nums7.getD j 0)))) = false then (.bool ((decide ((nums7.getD k 0) < 0)) && (decide ((nums7.getD j 0) < (IntKind.i64.wrap ((-9223372036854775808) - (nums7.getD k 0)))))) : Value) else undef), fun vals => vals 35 = (.bool (((decide (0 < (nums7.getD k 0))) && (decide ((IntKind.i64.wrap (9223372036854775807 - (nums7.getD k 0))) < (nums7.getD j 0)))) || ((decide ((nums7.getD k 0) < 0)) && (decide ((nums7.getD j 0) < (IntKind.i64.wrap ((-9223372036854775808) - (nums7.getD k 0))))))) : Value), fun vals => vals 36 = (.bool (((decide (0 < (nums7.getD k 0))) && (decide ((IntKind.i64.wrap (9223372036854775807 - (nums7.getD k 0))) < (nums7.getD j 0)))) || ((decide ((nums7.getD k 0) < 0)) && (decide ((nums7.getD j 0) < (IntKind.i64.wrap ((-9223372036854775808) - (nums7.getD k 0))))))) : Value)]) [[], [], [0, 1], [0, 1, 2], [0, 1, 2, 3], [0, 1, 2, 3, 4], [0, 1, 2, 3, 4, 5], [0, 1, 2, 3, 4, 5], [0, 1, 2, 3, 4, 5, 6, 7], [0, 1, 2, 3, 4, 5, 6, 7, 8], [0, 1, 2, 3, 4, 5], [0, 1, 2, 3, 4, 5], [0, 1, 2, 3, 4, 5, 10, 11], [0, 1, 2, 3, 4, 5, 10, 11, 12], [0, 1, 2, 3, 4, 5, 10, 11, 12, 13], [0, 1, 2, 3, 4, 5, 6, 7, 8, 9, 10, 11, 12, 13, 14], [0, 1, 2, 3, 4, 5, 6, 7, 8, 9, 10, 11, 12, 13, 14, 15], [0, 1, 2, 3, 4, 5, 6, 7, 8, 9, 10, 11, 12, 13, 14, 15, 16], [0, 1, 2, 3, 4, 5, 6, 7, 8, 9, 10, 11, 12, 13, 14, 15, 16, 17], [0, 1, 2, 3, 4, 5, 6, 7, 8, 9, 10, 11, 12, 13, 14, 15, 16, 17], [0, 1, 2, 3, 4, 5, 6, 7, 8, 9, 10, 11, 12, 13, 14, 15, 16, 17, 18, 19], [0, 1, 2, 3, 4, 5, 6, 7, 8, 9, 10, 11, 12, 13, 14, 15, 16, 17, 18, 19, 20], [0, 1, 2, 3, 4, 5, 6, 7, 8, 9, 10, 11, 12, 13, 14, 15, 16, 17, 18, 19, 20, 21], [0, 1, 2, 3, 4, 5, 6, 7, 8, 9, 10, 11, 12, 13, 14, 15, 16, 17, 18, 19, 20, 21, 22], [0, 1, 2, 3, 4, 5, 6, 7, 8, 9, 10, 11, 12, 13, 14, 15, 16, 17, 18, 19, 20, 21, 22, 23], [0, 1, 2, 3, 4, 5, 6, 7, 8, 9, 10, 11, 12, 13, 14, 15, 16, 17, 18, 19, 20, 21, 22, 23], [0, 1, 2, 3, 4, 5, 6, 7, 8, 9, 10, 11, 12, 13, 14, 15, 16, 17, 18, 19, 20, 21, 22, 23, 24, 25], [0, 1, 2, 3, 4, 5, 6, 7, 8, 9, 10, 11, 12, 13, 14, 15, 16, 17, 18, 19, 20, 21, 22, 23, 24, 25, 26], [0, 1, 2, 3, 4, 5, 6, 7, 8, 9, 10, 11, 12, 13, 14, 15, 16, 17, 18, 19, 20, 21, 22, 23], [0, 1, 2, 3, 4, 5, 6, 7, 8, 9, 10, 11, 12, 13, 14, 15, 16, 17, 18, 19, 20, 21, 22, 23], [0, 1, 2, 3, 4, 5, 6, 7, 8, 9, 10, 11, 12, 13, 14, 15, 16, 17, 18, 19, 20, 21, 22, 23, 28, 29], [0, 1, 2, 3, 4, 5, 6, 7, 8, 9, 10, 11, 12, 13, 14, 15, 16, 17, 18, 19, 20, 21, 22, 23, 28, 29, 30], [0, 1, 2, 3, 4, 5, 6, 7, 8, 9, 10, 11, 12, 13, 14, 15, 16, 17, 18, 19, 20, 21, 22, 23, 28, 29, 30, 31], [0, 1, 2, 3, 4, 5, 6, 7, 8, 9, 10, 11, 12, 13, 14, 15, 16, 17, 18, 19, 20, 21, 22, 23, 24, 25, 26, 27, 28, 29, 30, 31, 32], [0, 1, 2, 3, 4, 5, 6, 7, 8, 9, 10, 11, 12, 13, 14, 15, 16, 17, 18, 19, 20, 21, 22, 23, 24, 25, 26, 27, 28, 29, 30, 31, 32, 33], [0, 1, 2, 3, 4, 5, 6, 7, 8, 9, 10, 11, 12, 13, 14, 15, 16, 17, 18, 19, 20, 21, 22, 23, 24, 25, 26, 27, 28, 29, 30, 31, 32, 33, 34], [0, 1, 2, 3, 4, 5, 6, 7, 8, 9, 10, 11, 12, 13, 14, 15, 16, 17, 18, 19, 20, 21, 22, 23, 24, 25, 26, 27, 28, 29, 30, 31, 32, 33, 34, 35]] [] [(0, 0), (0, 0), (0, 0), (0, 0), (0, 0), (0, 0), (0, 0), (0, 0), (0, 0), (0, 0), (0, 0), (0, 0), (0, 0), (0, 0), (0, 0), (0, 0), (0, 0), (0, 0), (0, 0), (0, 0), (0, 0), (0, 0), (0, 0), (0, 0), (0, 0), (0, 0), (0, 0), (0, 0), (0, 0), (0, 0), (0, 0), (0, 0), (0, 0), (0, 0), (0, 0), (0, 0), (0, 0)] (by kernel_rfl) (by kernel_rfl) (by kernel_rfl) rfl (by kernel_rfl) (by kernel_rfl) (fun _ h1 h2 h3 h4 _ => hS329.same h1 h2 h3 h4) ?_ ?_ ⟨?_, ?_, ?_, ?_, ?_, ?_, ?_, ?_, ?_, ?_, ?_, ?_, ?_, ?_, ?_, ?_, ?_, ?_, ?_, ?_, ?_, ?_, ?_, ?_, ?_, ?_, ?_, ?_, ?_, ?_, ?_, ?_, ?_, ?_, ?_, ?_, ?_, trivial⟩ ?_
      · intro k vals vals' w hv h
        match k, h with
        | 0, h => exact h
        | _ + 1, _ => trivial
      · intro i vals vals' hv h
        match i, hv, h with
        | 0, hv, h => exact (hv 0 (.inl rfl)).trans h
        | 1, hv, h => exact (hv 1 (.inl rfl)).trans h
        | 2, hv, h => exact (hv 2 (.inl rfl)).trans h
        | 3, hv, h => exact (hv 3 (.inl rfl)).trans h
        | 4, hv, h => exact (hv 4 (.inl rfl)).trans h
        | 5, hv, h => exact (hv 5 (.inl rfl)).trans h
        | 6, hv, h => exact (hv 6 (.inl rfl)).trans h
        | 7, hv, h => exact (hv 7 (.inl rfl)).trans h
        | 8, hv, h => exact (hv 8 (.inl rfl)).trans h
        | 9, hv, h => exact (hv 9 (.inl rfl)).trans h
        | 10, hv, h => exact (hv 10 (.inl rfl)).trans h
        | 11, hv, h => exact (hv 11 (.inl rfl)).trans h
        | 12, hv, h => exact (hv 12 (.inl rfl)).trans h
        | 13, hv, h => exact (hv 13 (.inl rfl)).trans h
        | 14, hv, h => exact (hv 14 (.inl rfl)).trans h
        | 15, hv, h => exact (hv 15 (.inl rfl)).trans h
        | 16, hv, h => exact (hv 16 (.inl rfl)).trans h
        | 17, hv, h => exact (hv 17 (.inl rfl)).trans h
        | 18, hv, h => exact (hv 18 (.inl rfl)).trans h
        | 19, hv, h => exact (hv 19 (.inl rfl)).trans h
        | 20, hv, h => exact (hv 20 (.inl rfl)).trans h
        | 21, hv, h => exact (hv 21 (.inl rfl)).trans h
        | 22, hv, h => exact (hv 22 (.inl rfl)).trans h
        | 23, hv, h => exact (hv 23 (.inl rfl)).trans h
        | 24, hv, h => exact (hv 24 (.inl rfl)).trans h
        | 25, hv, h => exact (hv 25 (.inl rfl)).trans h
        | 26, hv, h => exact (hv 26 (.inl rfl)).trans h
        | 27, hv, h => exact (hv 27 (.inl rfl)).trans h
        | 28, hv, h => exact (hv 28 (.inl rfl)).trans h
        | 29, hv, h => exact (hv 29 (.inl rfl)).trans h
        | 30, hv, h => exact (hv 30 (.inl rfl)).trans h
        | 31, hv, h => exact (hv 31 (.inl rfl)).trans h
        | 32, hv, h => exact (hv 32 (.inl rfl)).trans h
        | 33, hv, h => exact (hv 33 (.inl rfl)).trans h
        | 34, hv, h => exact (hv 34 (.inl rfl)).trans h
        | 35, hv, h => exact (hv 35 (.inl rfl)).trans h
        | 36, hv, h => exact (hv 36 (.inl rfl)).trans h
        | _ + 37, _, _ => trivial
      · intro k716 vals w717 h720 h721 hW719 hA718
        refine obl rfl ?_
        exact ov_move (v := (.slice (some ⟨b57, 0, none⟩) 7 7)) rfl (fun vals' hv _ => ⟨rfl, hv⟩)
      · intro k722 vals w723 h726 h727 hW725 hA724
        refine obl rfl ?_
        exact ov_move (v := .int .i64 ((k : Nat) : Int)) rfl (fun vals' hv _ => ⟨rfl, hv⟩)
      · intro k728 vals w729 h732 h733 hW731 hA730
        obtain rfl : k728 = 0 := Nat.le_antisymm h733 h732
        have hS734 : Sep G61 w58 ((RowE (α := Cel) own 47 v318 ((List.replicate (⟨[(⟨1, 1, false, []⟩ : Fld)] ++ [fld1, fld2, fld3].drop 1⟩ : Typ).fields.length (⟨0, []⟩ : Cel)).set 0 ({ ((List.replicate (⟨[(⟨1, 1, false, []⟩ : Fld)] ++ [fld1, fld2, fld3].drop 1⟩ : Typ).fields.length (⟨0, []⟩ : Cel)).getD 0 default) with n := (nums7.getD k 0) } : Cel))) :: (RowE (α := Int) own 3 (.slice (some ⟨b57, 0, none⟩) 7 7) nums7) :: (Blk b35 #[v47] 31) :: (Blk b28 ((⟨[fld1, fld2, fld3]⟩ : Typ).cells (.slice (some ⟨bf2, 0, none⟩) 3 3)).toArray 31) :: (Blk bt1 #[(.slice (some ⟨bf2, 0, none⟩) 3 3)] 31) :: Rs) w729 := hW731
        have e735 : vals 0 = ((.slice (some ⟨b57, 0, none⟩) 7 7) : Value) := hA730 0 (by decide)
        have e736 : vals 1 = (.int .i64 ((k : Nat) : Int) : Value) := hA730 1 (by decide)
        refine obl rfl ?_
        have hi737 : k < nums7.length := (by first | omega | decide +kernel)
        exact ov_indexAddrN (k := 1) (i := k) Try.underlying44 Try.sizeOf3 (show _ = ((.slice (some ⟨b57, 0, none⟩) 7 7) : Value) from e735) hr71.1 (show _ = (.int .i64 ((k : Nat) : Int) : Value) from e736) hi737 (fun vals' hv _ => ⟨rfl, hv⟩)
      · intro k738 vals w739 h742 h743 hW741 hA740
        obtain rfl : k738 = 0 := Nat.le_antisymm h743 h742
        have hS744 : Sep G61 w58 ((RowE (α := Cel) own 47 v318 ((List.replicate (⟨[(⟨1, 1, false, []⟩ : Fld)] ++ [fld1, fld2, fld3].drop 1⟩ : Typ).fields.length (⟨0, []⟩ : Cel)).set 0 ({ ((List.replicate (⟨[(⟨1, 1, false, []⟩ : Fld)] ++ [fld1, fld2, fld3].drop 1⟩ : Typ).fields.length (⟨0, []⟩ : Cel)).getD 0 default) with n := (nums7.getD k 0) } : Cel))) :: (RowE (α := Int) own 3 (.slice (some ⟨b57, 0, none⟩) 7 7) nums7) :: (Blk b35 #[v47] 31) :: (Blk b28 ((⟨[fld1, fld2, fld3]⟩ : Typ).cells (.slice (some ⟨bf2, 0, none⟩) 3 3)).toArray 31) :: (Blk bt1 #[(.slice (some ⟨bf2, 0, none⟩) 3 3)] 31) :: Rs) w739 := hW741
        have e745 : vals 2 = (.pointer (some ⟨sb (.slice (some ⟨b57, 0, none⟩) 7 7), so (.slice (some ⟨b57, 0, none⟩) 7 7) + k * 1, none⟩) : Value) := hA740 2 (by decide)
        refine obl rfl ?_
        have hi747 : k < nums7.length := (by first | omega | decide +kernel)
        obtain ⟨_, _, hce746, rfl, hxe746⟩ := hS744.rowAt (i := 1) (j := k) rfl hi747
        rw [← getD_at 0 hi747] at hce746 hxe746
        exact ov_load1 (v := .int .i64 ((nums7.getD k 0))) Try.isAgg3 (show _ = (.pointer (some ⟨sb (.slice (some ⟨b57, 0, none⟩) 7 7), so (.slice (some ⟨b57, 0, none⟩) 7 7) + k * 1, none⟩) : Value) from e745) (hce746.get (j := 0) rfl) (fun vals' hv _ => ⟨rfl, hv⟩)
      · intro k748 vals w749 h752 h753 hW751 hA750
        obtain rfl : k748 = 0 := Nat.le_antisymm h753 h752
        have hS754 : Sep G61 w58 ((RowE (α := Cel) own 47 v318 ((List.replicate (⟨[(⟨1, 1, false, []⟩ : Fld)] ++ [fld1, fld2, fld3].drop 1⟩ : Typ).fields.length (⟨0, []⟩ : Cel)).set 0 ({ ((List.replicate (⟨[(⟨1, 1, false, []⟩ : Fld)] ++ [fld1, fld2, fld3].drop 1⟩ : Typ).fields.length (⟨0, []⟩ : Cel)).getD 0 default) with n := (nums7.getD k 0) } : Cel))) :: (RowE (α := Int) own 3 (.slice (some ⟨b57, 0, none⟩) 7 7) nums7) :: (Blk b35 #[v47] 31) :: (Blk b28 ((⟨[fld1, fld2, fld3]⟩ : Typ).cells (.slice (some ⟨bf2, 0, none⟩) 3 3)).toArray 31) :: (Blk bt1 #[(.slice (some ⟨bf2, 0, none⟩) 3 3)] 31) :: Rs) w749 := hW751
        have e755 : vals 3 = (.int .i64 ((nums7.getD k 0)) : Value) := hA750 3 (by decide)
        refine obl rfl ?_
        exact ov_gtr (k := .i64) (a := (nums7.getD k 0)) (b := 0) (show _ = (.int .i64 ((nums7.getD k 0)) : Value) from e755) rfl (fun vals' hv _ => ⟨rfl, hv⟩)
      · intro k756 vals w757 h760 h761 hW759 hA758
        have e762 : vals 4 = (.bool (decide (0 < (nums7.getD k 0))) : Value) := hA758 4 (by decide)
        refine obl rfl ?_
        exact ov_move (v := .bool (decide (0 < (nums7.getD k 0)))) (show _ = (.bool (decide (0 < (nums7.getD k 0))) : Value) from e762) (fun vals' hv _ => ⟨rfl, hv⟩)
      · intro k763 vals w764 h767 h768 hW766 hA765
        have e769 : vals 5 = (.bool (decide (0 < (nums7.getD k 0))) : Value) := hA765 5 (by decide)
        refine oblc rfl rfl (show _ = (.bool (decide (0 < (nums7.getD k 0))) : Value) from e769) (fun hb770 => ?_) (fun hb770 => fun vals' hv _ => ⟨trivial, hv.trans (if_neg hb770).symm⟩)
        have hl771 : (decide (0 < (nums7.getD k 0))) = true := hb770
        have hl771 := of_decide_eq_true hl771
        exact ov_move (v := (.slice (some ⟨b57, 0, none⟩) 7 7)) rfl (fun vals' hv _ => ⟨rfl, hv.trans (if_pos hb770).symm⟩)
      · intro k772 vals w773 h776 h777 hW775 hA774
        have e778 : vals 5 = (.bool (decide (0 < (nums7.getD k 0))) : Value) := hA774 5 (by decide)
        refine oblc rfl rfl (show _ = (.bool (decide (0 < (nums7.getD k 0))) : Value) from e778) (fun hb779 => ?_) (fun hb779 => fun vals' hv _ => ⟨trivial, hv.trans (if_neg hb779).symm⟩)
        have hl780 : (decide (0 < (nums7.getD k 0))) = true := hb779
        have hl780 := of_decide_eq_true hl780
        exact ov_move (v := .int .i64 ((j : Nat) : Int)) rfl (fun vals' hv _ => ⟨rfl, hv.trans (if_pos hb779).symm⟩)
      · intro k781 vals w782 h785 h786 hW784 hA783
        obtain rfl : k781 = 0 := Nat.le_antisymm h786 h785
        have hS787 : Sep G61 w58 ((RowE (α := Cel) own 47 v318 ((List.replicate (⟨[(⟨1, 1, false, []⟩ : Fld)] ++ [fld1, fld2, fld3].drop 1⟩ : Typ).fields.length (⟨0, []⟩ : Cel)).set 0 ({ ((List.replicate (⟨[(⟨1, 1, false, []⟩ : Fld)] ++ [fld1, fld2, fld3].drop 1⟩ : Typ).fields.length (⟨0, []⟩ : Cel)).getD 0 default) with n := (nums7.getD k 0) } : Cel))) :: (RowE (α := Int) own 3 (.slice (some ⟨b57, 0, none⟩) 7 7) nums7) :: (Blk b35 #[v47] 31) :: (Blk b28 ((⟨[fld1, fld2, fld3]⟩ : Typ).cells (.slice (some ⟨bf2, 0, none⟩) 3 3)).toArray 31) :: (Blk bt1 #[(.slice (some ⟨bf2, 0, none⟩) 3 3)] 31) :: Rs) w782 := hW784
        have e788 : vals 5 = (.bool (decide (0 < (nums7.getD k 0))) : Value) := hA783 5 (by decide)
        have e789 : vals 6 = (if (decide (0 < (nums7.getD k 0))) = true then ((.slice (some ⟨b57, 0, none⟩) 7 7) : Value) else undef) := hA783 6 (by decide)
        have e790 : vals 7 = (if (decide (0 < (nums7.getD k 0))) = true then (.int .i64 ((j : Nat) : Int) : Value) else undef) := hA783 7 (by decide)
        refine oblc rfl rfl (show _ = (.bool (decide (0 < (nums7.getD k 0))) : Value) from e788) (fun hb791 => ?_) (fun hb791 => fun vals' hv _ => ⟨trivial, hv.trans (if_neg hb791).symm⟩)
        have hl792 : (decide (0 < (nums7.getD k 0))) = true := hb791
        have hl792 := of_decide_eq_true hl792
        have hi793 : j < nums7.length := (by first | omega | decide +kernel)
        exact ov_indexAddrN (k := 1) (i := j) Try.underlying44 Try.sizeOf3 (show _ = ((.slice (some ⟨b57, 0, none⟩) 7 7) : Value) from (Eq.trans e789 (if_pos hb791))) hr71.1 (show _ = (.int .i64 ((j : Nat) : Int) : Value) from (Eq.trans e790 (if_pos hb791))) hi793 (fun vals' hv _ => ⟨rfl, hv.trans (if_pos hb791).symm⟩)
      · intro k794 vals w795 h798 h799 hW797 hA796
        obtain rfl : k794 = 0 := Nat.le_antisymm h799 h798
        have hS800 : Sep G61 w58 ((RowE (α := Cel) own 47 v318 ((List.replicate (⟨[(⟨1, 1, false, []⟩ : Fld)] ++ [fld1, fld2, fld3].drop 1⟩ : Typ).fields.length (⟨0, []⟩ : Cel)).set 0 ({ ((List.replicate (⟨[(⟨1, 1, false, []⟩ : Fld)] ++ [fld1, fld2, fld3].drop 1⟩ : Typ).fields.length (⟨0, []⟩ : Cel)).getD 0 default) with n := (nums7.getD k 0) } : Cel))) :: (RowE (α := Int) own 3 (.slice (some ⟨b57, 0, none⟩) 7 7) nums7) :: (Blk b35 #[v47] 31) :: (Blk b28 ((⟨[fld1, fld2, fld3]⟩ : Typ).cells (.slice (some ⟨bf2, 0, none⟩) 3 3)).toArray 31) :: (Blk bt1 #[(.slice (some ⟨bf2, 0, none⟩) 3 3)] 31) :: Rs) w795 := hW797
        have e801 : vals 5 = (.bool (decide (0 < (nums7.getD k 0))) : Value) := hA796 5 (by decide)
        have e802 : vals 8 = (if (decide (0 < (nums7.getD k 0))) = true then (.pointer (some ⟨sb (.slice (some ⟨b57, 0, none⟩) 7 7), so (.slice (some ⟨b57, 0, none⟩) 7 7) + j * 1, none⟩) : Value) else undef) := hA796 8 (by decide)
        refine oblc rfl rfl (show _ = (.bool (decide (0 < (nums7.getD k 0))) : Value) from e801) (fun hb803 => ?_) (fun hb803 => fun vals' hv _ => ⟨trivial, hv.trans (if_neg hb803).symm⟩)
        have hl804 : (decide (0 < (nums7.getD k 0))) = true := hb803
        have hl804 := of_decide_eq_true hl804
        have hi806 : j < nums7.length := (by first | omega | decide +kernel)
        obtain ⟨_, _, hce805, rfl, hxe805⟩ := hS800.rowAt (i := 1) (j := j) rfl hi806
        rw [← getD_at 0 hi806] at hce805 hxe805
        exact ov_load1 (v := .int .i64 ((nums7.getD j 0))) Try.isAgg3 (show _ = (.pointer (some ⟨sb (.slice (some ⟨b57, 0, none⟩) 7 7), so (.slice (some ⟨b57, 0, none⟩) 7 7) + j * 1, none⟩) : Value) from (Eq.trans e802 (if_pos hb803))) (hce805.get (j := 0) rfl) (fun vals' hv _ => ⟨rfl, hv.trans (if_pos hb803).symm⟩)
      · intro k807 vals w808 h811 h812 hW810 hA809
        have e813 : vals 5 = (.bool (decide (0 < (nums7.getD k 0))) : Value) := hA809 5 (by decide)
        refine oblc rfl rfl (show _ = (.bool (decide (0 < (nums7.getD k 0))) : Value) from e813) (fun hb814 => ?_) (fun hb814 => fun vals' hv _ => ⟨trivial, hv.trans (if_neg hb814).symm⟩)
        have hl815 : (decide (0 < (nums7.getD k 0))) = true := hb814
        have hl815 := of_decide_eq_true hl815
        exact ov_move (v := (.slice (some ⟨b57, 0, none⟩) 7 7)) rfl (fun vals' hv _ => ⟨rfl, hv.trans (if_pos hb814).symm⟩)
      · intro k816 vals w817 h820 h821 hW819 hA818
        have e822 : vals 5 = (.bool (decide (0 < (nums7.getD k 0))) : Value) := hA818 5 (by decide)
        refine oblc rfl rfl (show _ = (.bool (decide (0 < (nums7.getD k 0))) : Value) from e822) (fun hb823 => ?_) (fun hb823 => fun vals' hv _ => ⟨trivial, hv.trans (if_neg hb823).symm⟩)
        have hl824 : (decide (0 < (nums7.getD k 0))) = true := hb823
        have hl824 := of_decide_eq_true hl824
        exact ov_move (v := .int .i64 ((k : Nat) : Int)) rfl (fun vals' hv _ => ⟨rfl, hv.trans (if_pos hb823).symm⟩)
      · intro k825 vals w826 h829 h830 hW828 hA827
        obtain rfl : k825 = 0 := Nat.le_antisymm h830 h829
        have hS831 : Sep G61 w58 ((RowE (α := Cel) own 47 v318 ((List.replicate (⟨[(⟨1, 1, false, []⟩ : Fld)] ++ [fld1, fld2, fld3].drop 1⟩ : Typ).fields.length (⟨0, []⟩ : Cel)).set 0 ({ ((List.replicate (⟨[(⟨1, 1, false, []⟩ : Fld)] ++ [fld1, fld2, fld3].drop 1⟩ : Typ).fields.length (⟨0, []⟩ : Cel)).getD 0 default) with n := (nums7.getD k 0) } : Cel))) :: (RowE (α := Int) own 3 (.slice (some ⟨b57, 0, none⟩) 7 7) nums7) :: (Blk b35 #[v47] 31) :: (Blk b28 ((⟨[fld1, fld2, fld3]⟩ : Typ).cells (.slice (some ⟨bf2, 0, none⟩) 3 3)).toArray 31) :: (Blk bt1 #[(.slice (some ⟨bf2, 0, none⟩) 3 3)] 31) :: Rs) w826 := hW828
        have e832 : vals 5 = (.bool (decide (0 < (nums7.getD k 0))) : Value) := hA827 5 (by decide)
        have e833 : vals 10 = (if (decide (0 < (nums7.getD k 0))) = true then ((.slice (some ⟨b57, 0, none⟩) 7 7) : Value) else undef) := hA827 10 (by decide)
        have e834 : vals 11 = (if (decide (0 < (nums7.getD k 0))) = true then (.int .i64 ((k : Nat) : Int) : Value) else undef) := hA827 11 (by decide)
        refine oblc rfl rfl (show _ = (.bool (decide (0 < (nums7.getD k 0))) : Value) from e832) (fun hb835 => ?_) (fun hb835 => fun vals' hv _ => ⟨trivial, hv.trans (if_neg hb835).symm⟩)
        have hl836 : (decide (0 < (nums7.getD k 0))) = true := hb835
        have hl836 := of_decide_eq_true hl836
        have hi837 : k < nums7.length := (by first | omega | decide +kernel)
        exact ov_indexAddrN (k := 1) (i := k) Try.underlying44 Try.sizeOf3 (show _ = ((.slice (some ⟨b57, 0, none⟩) 7 7) : Value) from (Eq.trans e833 (if_pos hb835))) hr71.1 (show _ = (.int .i64 ((k : Nat) : Int) : Value) from (Eq.trans e834 (if_pos hb835))) hi837 (fun vals' hv _ => ⟨rfl, hv.trans (if_pos hb835).symm⟩)
      · intro k838 vals w839 h842 h843 hW841 hA840
        obtain rfl : k838 = 0 := Nat.le_antisymm h843 h842
        have hS844 : Sep G61 w58 ((RowE (α := Cel) own 47 v318 ((List.replicate (⟨[(⟨1, 1, false, []⟩ : Fld)] ++ [fld1, fld2, fld3].drop 1⟩ : Typ).fields.length (⟨0, []⟩ : Cel)).set 0 ({ ((List.replicate (⟨[(⟨1, 1, false, []⟩ : Fld)] ++ [fld1, fld2, fld3].drop 1⟩ : Typ).fields.length (⟨0, []⟩ : Cel)).getD 0 default) with n := (nums7.getD k 0) } : Cel))) :: (RowE (α := Int) own 3 (.slice (some ⟨b57, 0, none⟩) 7 7) nums7) :: (Blk b35 #[v47] 31) :: (Blk b28 ((⟨[fld1, fld2, fld3]⟩ : Typ).cells (.slice (some ⟨bf2, 0, none⟩) 3 3)).toArray 31) :: (Blk bt1 #[(.slice (some ⟨bf2, 0, none⟩) 3 3)] 31) :: Rs) w839 := hW841
        have e845 : vals 5 = (.bool (decide (0 < (nums7.getD k 0))) : Value) := hA840 5 (by decide)
        have e846 : vals 12 = (if (decide (0 < (nums7.getD k 0))) = true then (.pointer (some ⟨sb (.slice (some ⟨b57, 0, none⟩) 7 7), so (.slice (some ⟨b57, 0, none⟩) 7 7) + k * 1, none⟩) : Value) else undef) := hA840 12 (by decide)
        refine oblc rfl rfl (show _ = (.bool (decide (0 < (nums7.getD k 0))) : Value) from e845) (fun hb847 => ?_) (fun hb847 => fun vals' hv _ => ⟨trivial, hv.trans (if_neg hb847).symm⟩)
        have hl848 : (decide (0 < (nums7.getD k 0))) = true := hb847
        have hl848 := of_decide_eq_true hl848
        have hi850 : k < nums7.length := (by first | omega | decide +kernel)
        obtain ⟨_, _, hce849, rfl, hxe849⟩ := hS844.rowAt (i := 1) (j := k) rfl hi850
        rw [← getD_at 0 hi850] at hce849 hxe849
        exact ov_load1 (v := .int .i64 ((nums7.getD k 0))) Try.isAgg3 (show _ = (.pointer (some ⟨sb (.slice (some ⟨b57, 0, none⟩) 7 7), so (.slice (some ⟨b57, 0, none⟩) 7 7) + k * 1, none⟩) : Value) from (Eq.trans e846 (if_pos hb847))) (hce849.get (j := 0) rfl) (fun vals' hv _ => ⟨rfl, hv.trans (if_pos hb847).symm⟩)
      · intro k851 vals w852 h855 h856 hW854 hA853
        obtain rfl : k851 = 0 := Nat.le_antisymm h856 h855
        have hS857 : Sep G61 w58 ((RowE (α := Cel) own 47 v318 ((List.replicate (⟨[(⟨1, 1, false, []⟩ : Fld)] ++ [fld1, fld2, fld3].drop 1⟩ : Typ).fields.length (⟨0, []⟩ : Cel)).set 0 ({ ((List.replicate (⟨[(⟨1, 1, false, []⟩ : Fld)] ++ [fld1, fld2, fld3].drop 1⟩ : Typ).fields.length (⟨0, []⟩ : Cel)).getD 0 default) with n := (nums7.getD k 0) } : Cel))) :: (RowE (α := Int) own 3 (.slice (some ⟨b57, 0, none⟩) 7 7) nums7) :: (Blk b35 #[v47] 31) :: (Blk b28 ((⟨[fld1, fld2, fld3]⟩ : Typ).cells (.slice (some ⟨bf2, 0, none⟩) 3 3)).toArray 31) :: (Blk bt1 #[(.slice (some ⟨bf2, 0, none⟩) 3 3)] 31) :: Rs) w852 := hW854
        have e858 : vals 5 = (.bool (decide (0 < (nums7.getD k 0))) : Value) := hA853 5 (by decide)
        have e859 : vals 13 = (if (decide (0 < (nums7.getD k 0))) = true then (.int .i64 ((nums7.getD k 0)) : Value) else undef) := hA853 13 (by decide)
        refine oblc rfl rfl (show _ = (.bool (decide (0 < (nums7.getD k 0))) : Value) from e858) (fun hb860 => ?_) (fun hb860 => fun vals' hv _ => ⟨trivial, hv.trans (if_neg hb860).symm⟩)
        have hl861 : (decide (0 < (nums7.getD k 0))) = true := hb860
        have hl861 := of_decide_eq_true hl861
        exact ov_sub (r := IntKind.i64.wrap (9223372036854775807 - (nums7.getD k 0))) (k := .i64) (a := 9223372036854775807) (b := (nums7.getD k 0)) rfl (show _ = (.int .i64 ((nums7.getD k 0)) : Value) from (Eq.trans e859 (if_pos hb860))) rfl (fun vals' hv _ => ⟨rfl, hv.trans (if_pos hb860).symm⟩)
      · intro k862 vals w863 h866 h867 hW865 hA864
        obtain rfl : k862 = 0 := Nat.le_antisymm h867 h866
        have hS868 : Sep G61 w58 ((RowE (α := Cel) own 47 v318 ((List.replicate (⟨[(⟨1, 1, false, []⟩ : Fld)] ++ [fld1, fld2, fld3].drop 1⟩ : Typ).fields.length (⟨0, []⟩ : Cel)).set 0 ({ ((List.replicate (⟨[(⟨1, 1, false, []⟩ : Fld)] ++ [fld1, fld2, fld3].drop 1⟩ : Typ).fields.length (⟨0, []⟩ : Cel)).getD 0 default) with n := (nums7.getD k 0) } : Cel))) :: (RowE (α := Int) own 3 (.slice (some ⟨b57, 0, none⟩) 7 7) nums7) :: (Blk b35 #[v47] 31) :: (Blk b28 ((⟨[fld1, fld2, fld3]⟩ : Typ).cells (.slice (some ⟨bf2, 0, none⟩) 3 3)).toArray 31) :: (Blk bt1 #[(.slice (some ⟨bf2, 0, none⟩) 3 3)] 31) :: Rs) w863 := hW865
        have e869 : vals 5 = (.bool (decide (0 < (nums7.getD k 0))) : Value) := hA864 5 (by decide)
        have e870 : vals 9 = (if (decide (0 < (nums7.getD k 0))) = true then (.int .i64 ((nums7.getD j 0)) : Value) else undef) := hA864 9 (by decide)
        have e871 : vals 14 = (if (decide (0 < (nums7.getD k 0))) = true then (.int .i64 (IntKind.i64.wrap (9223372036854775807 - (nums7.getD k 0))) : Value) else undef) := hA864 14 (by decide)
        refine oblc rfl rfl (show _ = (.bool (decide (0 < (nums7.getD k 0))) : Value) from e869) (fun hb872 => ?_) (fun hb872 => fun vals' hv _ => ⟨trivial, hv.trans (if_neg hb872).symm⟩)
        have hl873 : (decide (0 < (nums7.getD k 0))) = true := hb872
        have hl873 := of_decide_eq_true hl873
        exact ov_gtr (k := .i64) (a := (nums7.getD j 0)) (b := IntKind.i64.wrap (9223372036854775807 - (nums7.getD k 0))) (show _ = (.int .i64 ((nums7.getD j 0)) : Value) from (Eq.trans e870 (if_pos hb872))) (show _ = (.int .i64 (IntKind.i64.wrap (9223372036854775807 - (nums7.getD k 0))) : Value) from (Eq.trans e871 (if_pos hb872))) (fun vals' hv _ => ⟨rfl, hv.trans (if_pos hb872).symm⟩)
      · intro k874 vals w875 h878 h879 hW877 hA876
        have e880 : vals 5 = (.bool (decide (0 < (nums7.getD k 0))) : Value) := hA876 5 (by decide)
        have e881 : vals 15 = (if (decide (0 < (nums7.getD k 0))) = true then (.bool (decide ((IntKind.i64.wrap (9223372036854775807 - (nums7.getD k 0))) < (nums7.getD j 0))) : Value) else undef) := hA876 15 (by decide)
        refine obl rfl ?_
        exact ov_pick_and (b := decide (0 < (nums7.getD k 0))) (b' := decide ((IntKind.i64.wrap (9223372036854775807 - (nums7.getD k 0))) < (nums7.getD j 0))) (show _ = (.bool (decide (0 < (nums7.getD k 0))) : Value) from e880) (fun hbp => (show _ = (.bool (decide ((IntKind.i64.wrap (9223372036854775807 - (nums7.getD k 0))) < (nums7.getD j 0))) : Value) from (Eq.trans e881 (if_pos hbp)))) (fun vals' hv _ => ⟨rfl, hv⟩)
      · intro k882 vals w883 h886 h887 hW885 hA884
        have e888 : vals 16 = (.bool ((decide (0 < (nums7.getD k 0))) && (decide ((IntKind.i64.wrap (9223372036854775807 - (nums7.getD k 0))) < (nums7.getD j 0)))) : Value) := hA884 16 (by decide)
        refine obl rfl ?_
        exact ov_move (v := .bool ((decide (0 < (nums7.getD k 0))) && (decide ((IntKind.i64.wrap (9223372036854775807 - (nums7.getD k 0))) < (nums7.getD j 0))))) (show _ = (.bool ((decide (0 < (nums7.getD k 0))) && (decide ((IntKind.i64.wrap (9223372036854775807 - (nums7.getD k 0))) < (nums7.getD j 0)))) : Value) from e888) (fun vals' hv _ => ⟨rfl, hv⟩)
      · intro k889 vals w890 h893 h894 hW892 hA891
        have e895 : vals 17 = (.bool ((decide (0 < (nums7.getD k 0))) && (decide ((IntKind.i64.wrap (9223372036854775807 - (nums7.getD k 0))) < (nums7.getD j 0)))) : Value) := hA891 17 (by decide)
        refine oblc rfl rfl (show _ = (.bool ((decide (0 < (nums7.getD k 0))) && (decide ((IntKind.i64.wrap (9223372036854775807 - (nums7.getD k 0))) < (nums7.getD j 0)))) : Value) from e895) (fun hb896 => ?_) (fun hb896 => fun vals' hv _ => ⟨trivial, hv.trans (if_neg hb896).symm⟩)
        have hl897 : ((decide (0 < (nums7.getD k 0))) && (decide ((IntKind.i64.wrap (9223372036854775807 - (nums7.getD k 0))) < (nums7.getD j 0)))) = false := hb896
        try simp only [bools] at hl897
        exact ov_move (v := (.slice (some ⟨b57, 0, none⟩) 7 7)) rfl (fun vals' hv _ => ⟨rfl, hv.trans (if_pos hb896).symm⟩)
      · intro k898 vals w899 h902 h903 hW901 hA900
        have e904 : vals 17 = (.bool ((decide (0 < (nums7.getD k 0))) && (decide ((IntKind.i64.wrap (9223372036854775807 - (nums7.getD k 0))) < (nums7.getD j 0)))) : Value) := hA900 17 (by decide)
        refine oblc rfl rfl (show _ = (.bool ((decide (0 < (nums7.getD k 0))) && (decide ((IntKind.i64.wrap (9223372036854775807 - (nums7.getD k 0))) < (nums7.getD j 0)))) : Value) from e904) (fun hb905 => ?_) (fun hb905 => fun vals' hv _ => ⟨trivial, hv.trans (if_neg hb905).symm⟩)
        have hl906 : ((decide (0 < (nums7.getD k 0))) && (decide ((IntKind.i64.wrap (9223372036854775807 - (nums7.getD k 0))) < (nums7.getD j 0)))) = false := hb905
        try simp only [bools] at hl906
        exact ov_move (v := .int .i64 ((k : Nat) : Int)) rfl (fun vals' hv _ => ⟨rfl, hv.trans (if_pos hb905).symm⟩)
      · intro k907 vals w908 h911 h912 hW910 hA909
        obtain rfl : k907 = 0 := Nat.le_antisymm h912 h911
        have hS913 : Sep G61 w58 ((RowE (α := Cel) own 47 v318 ((List.replicate (⟨[(⟨1, 1, false, []⟩ : Fld)] ++ [fld1, fld2, fld3].drop 1⟩ : Typ).fields.length (⟨0, []⟩ : Cel)).set 0 ({ ((List.replicate (⟨[(⟨1, 1, false, []⟩ : Fld)] ++ [fld1, fld2, fld3].drop 1⟩ : Typ).fields.length (⟨0, []⟩ : Cel)).getD 0 default) with n := (nums7.getD k 0) } : Cel))) :: (RowE (α := Int) own 3 (.slice (some ⟨b57, 0, none⟩) 7 7) nums7) :: (Blk b35 #[v47] 31) :: (Blk b28 ((⟨[fld1, fld2, fld3]⟩ : Typ).cells (.slice (some ⟨bf2, 0, none⟩) 3 3)).toArray 31) :: (Blk bt1 #[(.slice (some ⟨bf2, 0, none⟩) 3 3)] 31) :: Rs) w908 := hW910
        have e914 : vals 17 = (.bool ((decide (0 < (nums7.getD k 0))) && (decide ((IntKind.i64.wrap (9223372036854775807 - (nums7.getD k 0))) < (nums7.getD j 0)))) : Value) := hA909 17 (by decide)
        have e915 : vals 18 = (if ((decide (0 < (nums7.getD k 0))) && (decide ((IntKind.i64.wrap (9223372036854775807 - (nums7.getD k 0))) < (nums7.getD j 0)))) = false then ((.slice (some ⟨b57, 0, none⟩) 7 7) : Value) else undef) := hA909 18 (by decide)
        have e916 : vals 19 = (if ((decide (0 < (nums7.getD k 0))) && (decide ((IntKind.i64.wrap (9223372036854775807 - (nums7.getD k 0))) < (nums7.getD j 0)))) = false then (.int .i64 ((k : Nat) : Int) : Value) else undef) := hA909 19 (by decide)
        refine oblc rfl rfl (show _ = (.bool ((decide (0 < (nums7.getD k 0))) && (decide ((IntKind.i64.wrap (9223372036854775807 - (nums7.getD k 0))) < (nums7.getD j 0)))) : Value) from e914) (fun hb917 => ?_) (fun hb917 => fun vals' hv _ => ⟨trivial, hv.trans (if_neg hb917).symm⟩)
        have hl918 : ((decide (0 < (nums7.getD k 0))) && (decide ((IntKind.i64.wrap (9223372036854775807 - (nums7.getD k 0))) < (nums7.getD j 0)))) = false := hb917
        try simp only [bools] at hl918
        have hi919 : k < nums7.length := (by first | omega | decide +kernel)
        exact ov_indexAddrN (k := 1) (i := k) Try.underlying44 Try.sizeOf3 (show _ = ((.slice (some ⟨b57, 0, none⟩) 7 7) : Value) from (Eq.trans e915 (if_pos hb917))) hr71.1 (show _ = (.int .i64 ((k : Nat) : Int) : Value) from (Eq.trans e916 (if_pos hb917))) hi919 (fun vals' hv _ => ⟨rfl, hv.trans (if_pos hb917).symm⟩)
      · intro k920 vals w921 h924 h925 hW923 hA922
        obtain rfl : k920 = 0 := Nat.le_antisymm h925 h924
        have hS926 : Sep G61 w58 ((RowE (α := Cel) own 47 v318 ((List.replicate (⟨[(⟨1, 1, false, []⟩ : Fld)] ++ [fld1, fld2, fld3].drop 1⟩ : Typ).fields.length (⟨0, []⟩ : Cel)).set 0 ({ ((List.replicate (⟨[(⟨1, 1, false, []⟩ : Fld)] ++ [fld1, fld2, fld3].drop 1⟩ : Typ).fields.length (⟨0, []⟩ : Cel)).getD 0 default) with n := (nums7.getD k 0) } : Cel))) :: (RowE (α := Int) own 3 (.slice (some ⟨b57, 0, none⟩) 7 7) nums7) :: (Blk b35 #[v47] 31) :: (Blk b28 ((⟨[fld1, fld2, fld3]⟩ : Typ).cells (.slice (some ⟨bf2, 0, none⟩) 3 3)).toArray 31) :: (Blk bt1 #[(.slice (some ⟨bf2, 0, none⟩) 3 3)] 31) :: Rs) w921 := hW923
        have e927 : vals 17 = (.bool ((decide (0 < (nums7.getD k 0))) && (decide ((IntKind.i64.wrap (9223372036854775807 - (nums7.getD k 0))) < (nums7.getD j 0)))) : Value) := hA922 17 (by decide)
        have e928 : vals 20 = (if ((decide (0 < (nums7.getD k 0))) && (decide ((IntKind.i64.wrap (9223372036854775807 - (nums7.getD k 0))) < (nums7.getD j 0)))) = false then (.pointer (some ⟨sb (.slice (some ⟨b57, 0, none⟩) 7 7), so (.slice (some ⟨b57, 0, none⟩) 7 7) + k * 1, none⟩) : Value) else undef) := hA922 20 (by decide)
        refine oblc rfl rfl (show _ = (.bool ((decide (0 < (nums7.getD k 0))) && (decide ((IntKind.i64.wrap (9223372036854775807 - (nums7.getD k 0))) < (nums7.getD j 0)))) : Value) from e927) (fun hb929 => ?_) (fun hb929 => fun vals' hv _ => ⟨trivial, hv.trans (if_neg hb929).symm⟩)
        have hl930 : ((decide (0 < (nums7.getD k 0))) && (decide ((IntKind.i64.wrap (9223372036854775807 - (nums7.getD k 0))) < (nums7.getD j 0)))) = false := hb929
        try simp only [bools] at hl930
        have hi932 : k < nums7.length := (by first | omega | decide +kernel)
        obtain ⟨_, _, hce931, rfl, hxe931⟩ := hS926.rowAt (i := 1) (j := k) rfl hi932
        rw [← getD_at 0 hi932] at hce931 hxe931
        exact ov_load1 (v := .int .i64 ((nums7.getD k 0))) Try.isAgg3 (show _ = (.pointer (some ⟨sb (.slice (some ⟨b57, 0, none⟩) 7 7), so (.slice (some ⟨b57, 0, none⟩) 7 7) + k * 1, none⟩) : Value) from (Eq.trans e928 (if_pos hb929))) (hce931.get (j := 0) rfl) (fun vals' hv _ => ⟨rfl, hv.trans (if_pos hb929).symm⟩)
      · intro k933 vals w934 h937 h938 hW936 hA935
        obtain rfl : k933 = 0 := Nat.le_antisymm h938 h937
        have hS939 : Sep G61 w58 ((RowE (α := Cel) own 47 v318 ((List.replicate (⟨[(⟨1, 1, false, []⟩ : Fld)] ++ [fld1, fld2, fld3].drop 1⟩ : Typ).fields.length (⟨0, []⟩ : Cel)).set 0 ({ ((List.replicate (⟨[(⟨1, 1, false, []⟩ : Fld)] ++ [fld1, fld2, fld3].drop 1⟩ : Typ).fields.length (⟨0, []⟩ : Cel)).getD 0 default) with n := (nums7.getD k 0) } : Cel))) :: (RowE (α := Int) own 3 (.slice (some ⟨b57, 0, none⟩) 7 7) nums7) :: (Blk b35 #[v47] 31) :: (Blk b28 ((⟨[fld1, fld2, fld3]⟩ : Typ).cells (.slice (some ⟨bf2, 0, none⟩) 3 3)).toArray 31) :: (Blk bt1 #[(.slice (some ⟨bf2, 0, none⟩) 3 3)] 31) :: Rs) w934 := hW936
        have e940 : vals 17 = (.bool ((decide (0 < (nums7.getD k 0))) && (decide ((IntKind.i64.wrap (9223372036854775807 - (nums7.getD k 0))) < (nums7.getD j 0)))) : Value) := hA935 17 (by decide)
        have e941 : vals 21 = (if ((decide (0 < (nums7.getD k 0))) && (decide ((IntKind.i64.wrap (9223372036854775807 - (nums7.getD k 0))) < (nums7.getD j 0)))) = false then (.int .i64 ((nums7.getD k 0)) : Value) else undef) := hA935 21 (by decide)
        refine oblc rfl rfl (show _ = (.bool ((decide (0 < (nums7.getD k 0))) && (decide ((IntKind.i64.wrap (9223372036854775807 - (nums7.getD k 0))) < (nums7.getD j 0)))) : Value) from e940) (fun hb942 => ?_) (fun hb942 => fun vals' hv _ => ⟨trivial, hv.trans (if_neg hb942).symm⟩)
        have hl943 : ((decide (0 < (nums7.getD k 0))) && (decide ((IntKind.i64.wrap (9223372036854775807 - (nums7.getD k 0))) < (nums7.getD j 0)))) = false := hb942
        try simp only [bools] at hl943
        exact ov_lss (k := .i64) (a := (nums7.getD k 0)) (b := 0) (show _ = (.int .i64 ((nums7.getD k 0)) : Value) from (Eq.trans e941 (if_pos hb942))) rfl (fun vals' hv _ => ⟨rfl, hv.trans (if_pos hb942).symm⟩)
      · intro k944 vals w945 h948 h949 hW947 hA946
        have e950 : vals 17 = (.bool ((decide (0 < (nums7.getD k 0))) && (decide ((IntKind.i64.wrap (9223372036854775807 - (nums7.getD k 0))) < (nums7.getD j 0)))) : Value) := hA946 17 (by decide)
        have e951 : vals 22 = (if ((decide (0 < (nums7.getD k 0))) && (decide ((IntKind.i64.wrap (9223372036854775807 - (nums7.getD k 0))) < (nums7.getD j 0)))) = false then (.bool (decide ((nums7.getD k 0) < 0)) : Value) else undef) := hA946 22 (by decide)
        refine oblc rfl rfl (show _ = (.bool ((decide (0 < (nums7.getD k 0))) && (decide ((IntKind.i64.wrap (9223372036854775807 - (nums7.getD k 0))) < (nums7.getD j 0)))) : Value) from e950) (fun hb952 => ?_) (fun hb952 => fun vals' hv _ => ⟨trivial, hv.trans (if_neg hb952).symm⟩)
        have hl953 : ((decide (0 < (nums7.getD k 0))) && (decide ((IntKind.i64.wrap (9223372036854775807 - (nums7.getD k 0))) < (nums7.getD j 0)))) = false := hb952
        try simp only [bools] at hl953
        exact ov_move (v := .bool (decide ((nums7.getD k 0) < 0))) (show _ = (.bool (decide ((nums7.getD k 0) < 0)) : Value) from (Eq.trans e951 (if_pos hb952))) (fun vals' hv _ => ⟨rfl, hv.trans (if_pos hb952).symm⟩)
      · intro k954 vals w955 h958 h959 hW957 hA956
        have e960 : vals 23 = (if ((decide (0 < (nums7.getD k 0))) && (decide ((IntKind.i64.wrap (9223372036854775807 - (nums7.getD k 0))) < (nums7.getD j 0)))) = false then (.bool (decide ((nums7.getD k 0) < 0)) : Value) else undef) := hA956 23 (by decide)
        refine oblcP rfl rfl e960 (fun hb961 => ?_) (fun hb961 => fun vals' hv _ => ⟨trivial, hv.trans (if_neg hb961).symm⟩)
        have hl962 : ((decide (0 < (nums7.getD k 0))) && (decide ((IntKind.i64.wrap (9223372036854775807 - (nums7.getD k 0))) < (nums7.getD j 0)))) = false := hb961.1
        try simp only [bools] at hl962
        have hl963 : (decide ((nums7.getD k 0) < 0)) = true := hb961.2
        have hl963 := of_decide_eq_true hl963
        exact ov_move (v := (.slice (some ⟨b57, 0, none⟩) 7 7)) rfl (fun vals' hv _ => ⟨rfl, hv.trans (if_pos hb961).symm⟩)
      · intro k964 vals w965 h968 h969 hW967 hA966
        have e970 : vals 23 = (if ((decide (0 < (nums7.getD k 0))) && (decide ((IntKind.i64.wrap (9223372036854775807 - (nums7.getD k 0))) < (nums7.getD j 0)))) = false then (.bool (decide ((nums7.getD k 0) < 0)) : Value) else undef) := hA966 23 (by decide)
        refine oblcP rfl rfl e970 (fun hb971 => ?_) (fun hb971 => fun vals' hv _ => ⟨trivial, hv.trans (if_neg hb971).symm⟩)
        have hl972 : ((decide (0 < (nums7.getD k 0))) && (decide ((IntKind.i64.wrap (9223372036854775807 - (nums7.getD k 0))) < (nums7.getD j 0)))) = false := hb971.1
        try simp only [bools] at hl972
        have hl973 : (decide ((nums7.getD k 0) < 0)) = true := hb971.2
        have hl973 := of_decide_eq_true hl973
        exact ov_move (v := .int .i64 ((j : Nat) : Int)) rfl (fun vals' hv _ => ⟨rfl, hv.trans (if_pos hb971).symm⟩)
      · intro k974 vals w975 h978 h979 hW977 hA976
        obtain rfl : k974 = 0 := Nat.le_antisymm h979 h978
        have hS980 : Sep G61 w58 ((RowE (α := Cel) own 47 v318 ((List.replicate (⟨[(⟨1, 1, false, []⟩ : Fld)] ++ [fld1, fld2, fld3].drop 1⟩ : Typ).fields.length (⟨0, []⟩ : Cel)).set 0 ({ ((List.replicate (⟨[(⟨1, 1, false, []⟩ : Fld)] ++ [fld1, fld2, fld3].drop 1⟩ : Typ).fields.length (⟨0, []⟩ : Cel)).getD 0 default) with n := (nums7.getD k 0) } : Cel))) :: (RowE (α := Int) own 3 (.slice (some ⟨b57, 0, none⟩) 7 7) nums7) :: (Blk b35 #[v47] 31) :: (Blk b28 ((⟨[fld1, fld2, fld3]⟩ : Typ).cells (.slice (some ⟨bf2, 0, none⟩) 3 3)).toArray 31) :: (Blk bt1 #[(.slice (some ⟨bf2, 0, none⟩) 3 3)] 31) :: Rs) w975 := hW977
        have e981 : vals 23 = (if ((decide (0 < (nums7.getD k 0))) && (decide ((IntKind.i64.wrap (9223372036854775807 - (nums7.getD k 0))) < (nums7.getD j 0)))) = false then (.bool (decide ((nums7.getD k 0) < 0)) : Value) else undef) := hA976 23 (by decide)
        have e982 : vals 24 = (if (((decide (0 < (nums7.getD k 0))) && (decide ((IntKind.i64.wrap (9223372036854775807 - (nums7.getD k 0))) < (nums7.getD j 0)))) = false) ∧ (decide ((nums7.getD k 0) < 0)) = true then ((.slice (some ⟨b57, 0, none⟩) 7 7) : Value) else undef) := hA976 24 (by decide)
        have e983 : vals 25 = (if (((decide (0 < (nums7.getD k 0))) && (decide ((IntKind.i64.wrap (9223372036854775807 - (nums7.getD k 0))) < (nums7.getD j 0)))) = false) ∧ (decide ((nums7.getD k 0) < 0)) = true then (.int .i64 ((j : Nat) : Int) : Value) else undef) := hA976 25 (by decide)
        refine oblcP rfl rfl e981 (fun hb984 => ?_) (fun hb984 => fun vals' hv _ => ⟨trivial, hv.trans (if_neg hb984).symm⟩)
        have hl985 : ((decide (0 < (nums7.getD k 0))) && (decide ((IntKind.i64.wrap (9223372036854775807 - (nums7.getD k 0))) < (nums7.getD j 0)))) = false := hb984.1
        try simp only [bools] at hl985
        have hl986 : (decide ((nums7.getD k 0) < 0)) = true := hb984.2
        have hl986 := of_decide_eq_true hl986
        have hi987 : j < nums7.length := (by first | omega | decide +kernel)
        exact ov_indexAddrN (k := 1) (i := j) Try.underlying44 Try.sizeOf3 (show _ = ((.slice (some ⟨b57, 0, none⟩) 7 7) : Value) from (Eq.trans e982 (if_pos ⟨hb984.1, hb984.2⟩))) hr71.1 (show _ = (.int .i64 ((j : Nat) : Int) : Value) from (Eq.trans e983 (if_pos ⟨hb984.1, hb984.2⟩))) hi987 (fun vals' hv _ => ⟨rfl, hv.trans (if_pos hb984).symm⟩)
      · intro k988 vals w989 h992 h993 hW991 hA990
        obtain rfl : k988 = 0 := Nat.le_antisymm h993 h992
        have hS994 : Sep G61 w58 ((RowE (α := Cel) own 47 v318 ((List.replicate (⟨[(⟨1, 1, false, []⟩ : Fld)] ++ [fld1, fld2, fld3].drop 1⟩ : Typ).fields.length (⟨0, []⟩ : Cel)).set 0 ({ ((List.replicate (⟨[(⟨1, 1, false, []⟩ : Fld)] ++ [fld1, fld2, fld3].drop 1⟩ : Typ).fields.length (⟨0, []⟩ : Cel)).getD 0 default) with n := (nums7.getD k 0) } : Cel))) :: (RowE (α := Int) own 3 (.slice (some ⟨b57, 0, none⟩) 7 7) nums7) :: (Blk b35 #[v47] 31) :: (Blk b28 ((⟨[fld1, fld2, fld3]⟩ : Typ).cells (.slice (some ⟨bf2, 0, none⟩) 3 3)).toArray 31) :: (Blk bt1 #[(.slice (some ⟨bf2, 0, none⟩) 3 3)] 31) :: Rs) w989 := hW991
        have e995 : vals 23 = (if ((decide (0 < (nums7.getD k 0))) && (decide ((IntKind.i64.wrap (9223372036854775807 - (nums7.getD k 0))) < (nums7.getD j 0)))) = false then (.bool (decide ((nums7.getD k 0) < 0)) : Value) else undef) := hA990 23 (by decide)
        have e996 : vals 26 = (if (((decide (0 < (nums7.getD k 0))) && (decide ((IntKind.i64.wrap (9223372036854775807 - (nums7.getD k 0))) < (nums7.getD j 0)))) = false) ∧ (decide ((nums7.getD k 0) < 0)) = true then (.pointer (some ⟨sb (.slice (some ⟨b57, 0, none⟩) 7 7), so (.slice (some ⟨b57, 0, none⟩) 7 7) + j * 1, none⟩) : Value) else undef) := hA990 26 (by decide)
        refine oblcP rfl rfl e995 (fun hb997 => ?_) (fun hb997 => fun vals' hv _ => ⟨trivial, hv.trans (if_neg hb997).symm⟩)
        have hl998 : ((decide (0 < (nums7.getD k 0))) && (decide ((IntKind.i64.wrap (9223372036854775807 - (nums7.getD k 0))) < (nums7.getD j 0)))) = false := hb997.1
        try simp only [bools] at hl998
        have hl999 : (decide ((nums7.getD k 0) < 0)) = true := hb997.2
        have hl999 := of_decide_eq_true hl999
        have hi1001 : j < nums7.length := (by first | omega | decide +kernel)
        obtain ⟨_, _, hce1000, rfl, hxe1000⟩ := hS994.rowAt (i := 1) (j := j) rfl hi1001
        rw [← getD_at 0 hi1001] at hce1000 hxe1000
        exact ov_load1 (v := .int .i64 ((nums7.getD j 0))) Try.isAgg3 (show _ = (.pointer (some ⟨sb (.slice (some ⟨b57, 0, none⟩) 7 7), so (.slice (some ⟨b57, 0, none⟩) 7 7) + j * 1, none⟩) : Value) from (Eq.trans e996 (if_pos ⟨hb997.1, hb997.2⟩))) (hce1000.get (j := 0) rfl) (fun vals' hv _ => ⟨rfl, hv.trans (if_pos hb997).symm⟩)
      · intro k1002 vals w1003 h1006 h1007 hW1005 hA1004
        have e1008 : vals 23 = (if ((decide (0 < (nums7.getD k 0))) && (decide ((IntKind.i64.wrap (9223372036854775807 - (nums7.getD k 0))) < (nums7.getD j 0)))) = false then (.bool (decide ((nums7.getD k 0) < 0)) : Value) else undef) := hA1004 23 (by decide)
        refine oblcP rfl rfl e1008 (fun hb1009 => ?_) (fun hb1009 => fun vals' hv _ => ⟨trivial, hv.trans (if_neg hb1009).symm⟩)
        have hl1010 : ((decide (0 < (nums7.getD k 0))) && (decide ((IntKind.i64.wrap (9223372036854775807 - (nums7.getD k 0))) < (nums7.getD j 0)))) = false := hb1009.1
        try simp only [bools] at hl1010
        have hl1011 : (decide ((nums7.getD k 0) < 0)) = true := hb1009.2
        have hl1011 := of_decide_eq_true hl1011
        exact ov_move (v := (.slice (some ⟨b57, 0, none⟩) 7 7)) rfl (fun vals' hv _ => ⟨rfl, hv.trans (if_pos hb1009).symm⟩)
      · intro k1012 vals w1013 h1016 h1017 hW1015 hA1014
        have e1018 : vals 23 = (if ((decide (0 < (nums7.getD k 0))) && (decide ((IntKind.i64.wrap (9223372036854775807 - (nums7.getD k 0))) < (nums7.getD j 0)))) = false then (.bool (decide ((nums7.getD k 0) < 0)) : Value) else undef) := hA1014 23 (by decide)
        refine oblcP rfl rfl e1018 (fun hb1019 => ?_) (fun hb1019 => fun vals' hv _ => ⟨trivial, hv.trans (if_neg hb1019).symm⟩)
        have hl1020 : ((decide (0 < (nums7.getD k 0))) && (decide ((IntKind.i64.wrap (9223372036854775807 - (nums7.getD k 0))) < (nums7.getD j 0)))) = false := hb1019.1
        try simp only [bools] at hl1020
        have hl1021 : (decide ((nums7.getD k 0) < 0)) = true := hb1019.2
        have hl1021 := of_decide_eq_true hl1021
        exact ov_move (v := .int .i64 ((k : Nat) : Int)) rfl (fun vals' hv _ => ⟨rfl, hv.trans (if_pos hb1019).symm⟩)
      · intro k1022 vals w1023 h1026 h1027 hW1025 hA1024
        obtain rfl : k1022 = 0 := Nat.le_antisymm h1027 h1026
        have hS1028 : Sep G61 w58 ((RowE (α := Cel) own 47 v318 ((List.replicate (⟨[(⟨1, 1, false, []⟩ : Fld)] ++ [fld1, fld2, fld3].drop 1⟩ : Typ).fields.length (⟨0, []⟩ : Cel)).set 0 ({ ((List.replicate (⟨[(⟨1, 1, false, []⟩ : Fld)] ++ [fld1, fld2, fld3].drop 1⟩ : Typ).fields.length (⟨0, []⟩ : Cel)).getD 0 default) with n := (nums7.getD k 0) } : Cel))) :: (RowE (α := Int) own 3 (.slice (some ⟨b57, 0, none⟩) 7 7) nums7) :: (Blk b35 #[v47] 31) :: (Blk b28 ((⟨[fld1, fld2, fld3]⟩ : Typ).cells (.slice (some ⟨bf2, 0, none⟩) 3 3)).toArray 31) :: (Blk bt1 #[(.slice (some ⟨bf2, 0, none⟩) 3 3)] 31) :: Rs) w1023 := hW1025
        have e1029 : vals 23 = (if ((decide (0 < (nums7.getD k 0))) && (decide ((IntKind.i64.wrap (9223372036854775807 - (nums7.getD k 0))) < (nums7.getD j 0)))) = false then (.bool (decide ((nums7.getD k 0) < 0)) : Value) else undef) := hA1024 23 (by decide)
        have e1030 : vals 28 = (if (((decide (0 < (nums7.getD k 0))) && (decide ((IntKind.i64.wrap (9223372036854775807 - (nums7.getD k 0))) < (nums7.getD j 0)))) = false) ∧ (decide ((nums7.getD k 0) < 0)) = true then ((.slice (some ⟨b57, 0, none⟩) 7 7) : Value) else undef) := hA1024 28 (by decide)
        have e1031 : vals 29 = (if (((decide (0 < (nums7.getD k 0))) && (decide ((IntKind.i64.wrap (9223372036854775807 - (nums7.getD k 0))) < (nums7.getD j 0)))) = false) ∧ (decide ((nums7.getD k 0) < 0)) = true then (.int .i64 ((k : Nat) : Int) : Value) else undef) := hA1024 29 (by decide)
        refine oblcP rfl rfl e1029 (fun hb1032 => ?_) (fun hb1032 => fun vals' hv _ => ⟨trivial, hv.trans (if_neg hb1032).symm⟩)
        have hl1033 : ((decide (0 < (nums7.getD k 0))) && (decide ((IntKind.i64.wrap (9223372036854775807 - (nums7.getD k 0))) < (nums7.getD j 0)))) = false := hb1032.1
        try simp only [bools] at hl1033
        have hl1034 : (decide ((nums7.getD k 0) < 0)) = true := hb1032.2
        have hl1034 := of_decide_eq_true hl1034
        have hi1035 : k < nums7.length := (by first | omega | decide +kernel)
        exact ov_indexAddrN (k := 1) (i := k) Try.underlying44 Try.sizeOf3 (show _ = ((.slice (some ⟨b57, 0, none⟩) 7 7) : Value) from (Eq.trans e1030 (if_pos ⟨hb1032.1, hb1032.2⟩))) hr71.1 (show _ = (.int .i64 ((k : Nat) : Int) : Value) from (Eq.trans e1031 (if_pos ⟨hb1032.1, hb1032.2⟩))) hi1035 (fun vals' hv _ => ⟨rfl, hv.trans (if_pos hb1032).symm⟩)
      · intro k1036 vals w1037 h1040 h1041 hW1039 hA1038
        obtain rfl : k1036 = 0 := Nat.le_antisymm h1041 h1040
        have hS1042 : Sep G61 w58 ((RowE (α := Cel) own 47 v318 ((List.replicate (⟨[(⟨1, 1, false, []⟩ : Fld)] ++ [fld1, fld2, fld3].drop 1⟩ : Typ).fields.length (⟨0, []⟩ : Cel)).set 0 ({ ((List.replicate (⟨[(⟨1, 1, false, []⟩ : Fld)] ++ [fld1, fld2, fld3].drop 1⟩ : Typ).fields.length (⟨0, []⟩ : Cel)).getD 0 default) with n := (nums7.getD k 0) } : Cel))) :: (RowE (α := Int) own 3 (.slice (some ⟨b57, 0, none⟩) 7 7) nums7) :: (Blk b35 #[v47] 31) :: (Blk b28 ((⟨[fld1, fld2, fld3]⟩ : Typ).cells (.slice (some ⟨bf2, 0, none⟩) 3 3)).toArray 31) :: (Blk bt1 #[(.slice (some ⟨bf2, 0, none⟩) 3 3)] 31) :: Rs) w1037 := hW1039
        have e1043 : vals 23 = (if ((decide (0 < (nums7.getD k 0))) && (decide ((IntKind.i64.wrap (9223372036854775807 - (nums7.getD k 0))) < (nums7.getD j 0)))) = false then (.bool (decide ((nums7.getD k 0) < 0)) : Value) else undef) := hA1038 23 (by decide)
        have e1044 : vals 30 = (if (((decide (0 < (nums7.getD k 0))) && (decide ((IntKind.i64.wrap (9223372036854775807 - (nums7.getD k 0))) < (nums7.getD j 0)))) = false) ∧ (decide ((nums7.getD k 0) < 0)) = true then (.pointer (some ⟨sb (.slice (some ⟨b57, 0, none⟩) 7 7), so (.slice (some ⟨b57, 0, none⟩) 7 7) + k * 1, none⟩) : Value) else undef) := hA1038 30 (by decide)
        refine oblcP rfl rfl e1043 (fun hb1045 => ?_) (fun hb1045 => fun vals' hv _ => ⟨trivial, hv.trans (if_neg hb1045).symm⟩)
        have hl1046 : ((decide (0 < (nums7.getD k 0))) && (decide ((IntKind.i64.wrap (9223372036854775807 - (nums7.getD k 0))) < (nums7.getD j 0)))) = false := hb1045.1
        try simp only [bools] at hl1046
        have hl1047 : (decide ((nums7.getD k 0) < 0)) = true := hb1045.2
        have hl1047 := of_decide_eq_true hl1047
        have hi1049 : k < nums7.length := (by first | omega | decide +kernel)
        obtain ⟨_, _, hce1048, rfl, hxe1048⟩ := hS1042.rowAt (i := 1) (j := k) rfl hi1049
        rw [← getD_at 0 hi1049] at hce1048 hxe1048
        exact ov_load1 (v := .int .i64 ((nums7.getD k 0))) Try.isAgg3 (show _ = (.pointer (some ⟨sb (.slice (some ⟨b57, 0, none⟩) 7 7), so (.slice (some ⟨b57, 0, none⟩) 7 7) + k * 1, none⟩) : Value) from (Eq.trans e1044 (if_pos ⟨hb1045.1, hb1045.2⟩))) (hce1048.get (j := 0) rfl) (fun vals' hv _ => ⟨rfl, hv.trans (if_pos hb1045).symm⟩)
      · intro k1050 vals w1051 h1054 h1055 hW1053 hA1052
        obtain rfl : k1050 = 0 := Nat.le_antisymm h1055 h1054
        have hS1056 : Sep G61 w58 ((RowE (α := Cel) own 47 v318 ((List.replicate (⟨[(⟨1, 1, false, []⟩ : Fld)] ++ [fld1, fld2, fld3].drop 1⟩ : Typ).fields.length (⟨0, []⟩ : Cel)).set 0 ({ ((List.replicate (⟨[(⟨1, 1, false, []⟩ : Fld)] ++ [fld1, fld2, fld3].drop 1⟩ : Typ).fields.length (⟨0, []⟩ : Cel)).getD 0 default) with n := (nums7.getD k 0) } : Cel))) :: (RowE (α := Int) own 3 (.slice (some ⟨b57, 0, none⟩) 7 7) nums7) :: (Blk b35 #[v47] 31) :: (Blk b28 ((⟨[fld1, fld2, fld3]⟩ : Typ).cells (.slice (some ⟨bf2, 0, none⟩) 3 3)).toArray 31) :: (Blk bt1 #[(.slice (some ⟨bf2, 0, none⟩) 3 3)] 31) :: Rs) w1051 := hW1053
        have e1057 : vals 23 = (if ((decide (0 < (nums7.getD k 0))) && (decide ((IntKind.i64.wrap (9223372036854775807 - (nums7.getD k 0))) < (nums7.getD j 0)))) = false then (.bool (decide ((nums7.getD k 0) < 0)) : Value) else undef) := hA1052 23 (by decide)
        have e1058 : vals 31 = (if (((decide (0 < (nums7.getD k 0))) && (decide ((IntKind.i64.wrap (9223372036854775807 - (nums7.getD k 0))) < (nums7.getD j 0)))) = false) ∧ (decide ((nums7.getD k 0) < 0)) = true then (.int .i64 ((nums7.getD k 0)) : Value) else undef) := hA1052 31 (by decide)
        refine oblcP rfl rfl e1057 (fun hb1059 => ?_) (fun hb1059 => fun vals' hv _ => ⟨trivial, hv.trans (if_neg hb1059).symm⟩)
        have hl1060 : ((decide (0 < (nums7.getD k 0))) && (decide ((IntKind.i64.wrap (9223372036854775807 - (nums7.getD k 0))) < (nums7.getD j 0)))) = false := hb1059.1
        try simp only [bools] at hl1060
        have hl1061 : (decide ((nums7.getD k 0) < 0)) = true := hb1059.2
        have hl1061 := of_decide_eq_true hl1061
        exact ov_sub (r := IntKind.i64.wrap ((-9223372036854775808) - (nums7.getD k 0))) (k := .i64) (a := -9223372036854775808) (b := (nums7.getD k 0)) rfl (show _ = (.int .i64 ((nums7.getD k 0)) : Value) from (Eq.trans e1058 (if_pos ⟨hb1059.1, hb1059.2⟩))) rfl (fun vals' hv _ => ⟨rfl, hv.trans (if_pos hb1059).symm⟩)
      · intro k1062 vals w1063 h1066 h1067 hW1065 hA1064
        obtain rfl : k1062 = 0 := Nat.le_antisymm h1067 h1066
        have hS1068 : Sep G61 w58 ((RowE (α := Cel) own 47 v318 ((List.replicate (⟨[(⟨1, 1, false, []⟩ : Fld)] ++ [fld1, fld2, fld3].drop 1⟩ : Typ).fields.length (⟨0, []⟩ : Cel)).set 0 ({ ((List.replicate (⟨[(⟨1, 1, false, []⟩ : Fld)] ++ [fld1, fld2, fld3].drop 1⟩ : Typ).fields.length (⟨0, []⟩ : Cel)).getD 0 default) with n := (nums7.getD k 0) } : Cel))) :: (RowE (α := Int) own 3 (.slice (some ⟨b57, 0, none⟩) 7 7) nums7) :: (Blk b35 #[v47] 31) :: (Blk b28 ((⟨[fld1, fld2, fld3]⟩ : Typ).cells (.slice (some ⟨bf2, 0, none⟩) 3 3)).toArray 31) :: (Blk bt1 #[(.slice (some ⟨bf2, 0, none⟩) 3 3)] 31) :: Rs) w1063 := hW1065
        have e1069 : vals 23 = (if ((decide (0 < (nums7.getD k 0))) && (decide ((IntKind.i64.wrap (9223372036854775807 - (nums7.getD k 0))) < (nums7.getD j 0)))) = false then (.bool (decide ((nums7.getD k 0) < 0)) : Value) else undef) := hA1064 23 (by decide)
        have e1070 : vals 27 = (if (((decide (0 < (nums7.getD k 0))) && (decide ((IntKind.i64.wrap (9223372036854775807 - (nums7.getD k 0))) < (nums7.getD j 0)))) = false) ∧ (decide ((nums7.getD k 0) < 0)) = true then (.int .i64 ((nums7.getD j 0)) : Value) else undef) := hA1064 27 (by decide)
        have e1071 : vals 32 = (if (((decide (0 < (nums7.getD k 0))) && (decide ((IntKind.i64.wrap (9223372036854775807 - (nums7.getD k 0))) < (nums7.getD j 0)))) = false) ∧ (decide ((nums7.getD k 0) < 0)) = true then (.int .i64 (IntKind.i64.wrap ((-9223372036854775808) - (nums7.getD k 0))) : Value) else undef) := hA1064 32 (by decide)
        refine oblcP rfl rfl e1069 (fun hb1072 => ?_) (fun hb1072 => fun vals' hv _ => ⟨trivial, hv.trans (if_neg hb1072).symm⟩)
        have hl1073 : ((decide (0 < (nums7.getD k 0))) && (decide ((IntKind.i64.wrap (9223372036854775807 - (nums7.getD k 0))) < (nums7.getD j 0)))) = false := hb1072.1
        try simp only [bools] at hl1073
        have hl1074 : (decide ((nums7.getD k 0) < 0)) = true := hb1072.2
        have hl1074 := of_decide_eq_true hl1074
        exact ov_lss (k := .i64) (a := (nums7.getD j 0)) (b := IntKind.i64.wrap ((-9223372036854775808) - (nums7.getD k 0))) (show _ = (.int .i64 ((nums7.getD j 0)) : Value) from (Eq.trans e1070 (if_pos ⟨hb1072.1, hb1072.2⟩))) (show _ = (.int .i64 (IntKind.i64.wrap ((-9223372036854775808) - (nums7.getD k 0))) : Value) from (Eq.trans e1071 (if_pos ⟨hb1072.1, hb1072.2⟩))) (fun vals' hv _ => ⟨rfl, hv.trans (if_pos hb1072).symm⟩)
      · intro k1075 vals w1076 h1079 h1080 hW1078 hA1077
        have e1081 : vals 17 = (.bool ((decide (0 < (nums7.getD k 0))) && (decide ((IntKind.i64.wrap (9223372036854775807 - (nums7.getD k 0))) < (nums7.getD j 0)))) : Value) := hA1077 17 (by decide)
        have e1082 : vals 23 = (if ((decide (0 < (nums7.getD k 0))) && (decide ((IntKind.i64.wrap (9223372036854775807 - (nums7.getD k 0))) < (nums7.getD j 0)))) = false then (.bool (decide ((nums7.getD k 0) < 0)) : Value) else undef) := hA1077 23 (by decide)
        have e1083 : vals 33 = (if (((decide (0 < (nums7.getD k 0))) && (decide ((IntKind.i64.wrap (9223372036854775807 - (nums7.getD k 0))) < (nums7.getD j 0)))) = false) ∧ (decide ((nums7.getD k 0) < 0)) = true then (.bool (decide ((nums7.getD j 0) < (IntKind.i64.wrap ((-9223372036854775808) - (nums7.getD k 0))))) : Value) else undef) := hA1077 33 (by decide)
        refine oblc rfl rfl (show _ = (.bool ((decide (0 < (nums7.getD k 0))) && (decide ((IntKind.i64.wrap (9223372036854775807 - (nums7.getD k 0))) < (nums7.getD j 0)))) : Value) from e1081) (fun hb1084 => ?_) (fun hb1084 => fun vals' hv _ => ⟨trivial, hv.trans (if_neg hb1084).symm⟩)
        have hl1085 : ((decide (0 < (nums7.getD k 0))) && (decide ((IntKind.i64.wrap (9223372036854775807 - (nums7.getD k 0))) < (nums7.getD j 0)))) = false := hb1084
        try simp only [bools] at hl1085
        exact ov_pick_and (b := decide ((nums7.getD k 0) < 0)) (b' := decide ((nums7.getD j 0) < (IntKind.i64.wrap ((-9223372036854775808) - (nums7.getD k 0))))) (show _ = (.bool (decide ((nums7.getD k 0) < 0)) : Value) from (Eq.trans e1082 (if_pos hb1084))) (fun hbp => (show _ = (.bool (decide ((nums7.getD j 0) < (IntKind.i64.wrap ((-9223372036854775808) - (nums7.getD k 0))))) : Value) from (Eq.trans e1083 (if_pos ⟨hb1084, hbp⟩)))) (fun vals' hv _ => ⟨rfl, hv.trans (if_pos hb1084).symm⟩)
      · intro k1086 vals w1087 h1090 h1091 hW1089 hA1088
        have e1092 : vals 17 = (.bool ((decide (0 < (nums7.getD k 0))) && (decide ((IntKind.i64.wrap (9223372036854775807 - (nums7.getD k 0))) < (nums7.getD j 0)))) : Value) := hA1088 17 (by decide)
        have e1093 : vals 34 = (if ((decide (0 < (nums7.getD k 0))) && (decide ((IntKind.i64.wrap (9223372036854775807 - (nums7.getD k 0))) < (nums7.getD j 0)))) = false then (.bool ((decide ((nums7.getD k 0) < 0)) && (decide ((nums7.getD j 0) < (IntKind.i64.wrap ((-9223372036854775808) - (nums7.getD k 0)))))) : Value) else undef) := hA1088 34 (by decide)
        refine obl rfl ?_
        exact ov_pick_or (b := (decide (0 < (nums7.getD k 0))) && (decide ((IntKind.i64.wrap (9223372036854775807 - (nums7.getD k 0))) < (nums7.getD j 0)))) (b' := (decide ((nums7.getD k 0) < 0)) && (decide ((nums7.getD j 0) < (IntKind.i64.wrap ((-9223372036854775808) - (nums7.getD k 0)))))) (show _ = (.bool ((decide (0 < (nums7.getD k 0))) && (decide ((IntKind.i64.wrap (9223372036854775807 - (nums7.getD k 0))) < (nums7.getD j 0)))) : Value) from e1092) (fun hbp => (show _ = (.bool ((decide ((nums7.getD k 0) < 0)) && (decide ((nums7.getD j 0) < (IntKind.i64.wrap ((-9223372036854775808) - (nums7.getD k 0)))))) : Value) from (Eq.trans e1093 (if_pos hbp)))) (fun vals' hv _ => ⟨rfl, hv⟩)
      · intro k1094 vals w1095 h1098 h1099 hW1097 hA1096
        have e1100 : vals 35 = (.bool (((decide (0 < (nums7.getD k 0))) && (decide ((IntKind.i64.wrap (9223372036854775807 - (nums7.getD k 0))) < (nums7.getD j 0)))) || ((decide ((nums7.getD k 0) < 0)) && (decide ((nums7.getD j 0) < (IntKind.i64.wrap ((-9223372036854775808) - (nums7.getD k 0))))))) : Value) := hA1096 35 (by decide)
        refine obl rfl ?_
        exact ov_assign (v := .bool (((decide (0 < (nums7.getD k 0))) && (decide ((IntKind.i64.wrap (9223372036854775807 - (nums7.getD k 0))) < (nums7.getD j 0)))) || ((decide ((nums7.getD k 0) < 0)) && (decide ((nums7.getD j 0) < (IntKind.i64.wrap ((-9223372036854775808) - (nums7.getD k 0)))))))) (show _ = (.bool (((decide (0 < (nums7.getD k 0))) && (decide ((IntKind.i64.wrap (9223372036854775807 - (nums7.getD k 0))) < (nums7.getD j 0)))) || ((decide ((nums7.getD k 0) < 0)) && (decide ((nums7.getD j 0) < (IntKind.i64.wrap ((-9223372036854775808) - (nums7.getD k 0))))))) : Value) from e1100) (fun vals' hv _ => ⟨rfl, hv⟩)
      intro vals w1101 hW1102 hA1103
      have hS1104 : Sep G61 w58 ((RowE (α := Cel) own 47 v318 ((List.replicate (⟨[(⟨1, 1, false, []⟩ : Fld)] ++ [fld1, fld2, fld3].drop 1⟩ : Typ).fields.length (⟨0, []⟩ : Cel)).set 0 ({ ((List.replicate (⟨[(⟨1, 1, false, []⟩ : Fld)] ++ [fld1, fld2, fld3].drop 1⟩ : Typ).fields.length (⟨0, []⟩ : Cel)).getD 0 default) with n := (nums7.getD k 0) } : Cel))) :: (RowE (α := Int) own 3 (.slice (some ⟨b57, 0, none⟩) 7 7) nums7) :: (Blk b35 #[v47] 31) :: (Blk b28 ((⟨[fld1, fld2, fld3]⟩ : Typ).cells (.slice (some ⟨bf2, 0, none⟩) 3 3)).toArray 31) :: (Blk bt1 #[(.slice (some ⟨bf2, 0, none⟩) 3 3)] 31) :: Rs) w1101 := hW1102
      have e1105 : vals 36 = (.bool (((decide (0 < (nums7.getD k 0))) && (decide ((IntKind.i64.wrap (9223372036854775807 - (nums7.getD k 0))) < (nums7.getD j 0)))) || ((decide ((nums7.getD k 0) < 0)) && (decide ((nums7.getD j 0) < (IntKind.i64.wrap ((-9223372036854775808) - (nums7.getD k 0))))))) : Value) := hA1103 36 (by decide)
      refine st_env (kv := [(1, .pointer (some ⟨b28, 0, none⟩)), (2, .pointer (some ⟨b35, 0, none⟩)), (3, (.slice (some ⟨b57, 0, none⟩) 7 7)), (4, .int .i64 ((k : Nat) : Int)), (5, .int .i64 ((j : Nat) : Int)), (29, .int .i64 ((j : Nat) : Int)), (30, (.slice (some ⟨b57, 0, none⟩) 7 7)), (31, .int .i64 ((nums7.length : Nat) : Int)), (32, .bool true), (35, .agg ((⟨[(⟨1, 1, false, []⟩ : Fld)] ++ [fld1, fld2, fld3].drop 1⟩ : Typ).cells v47).toArray), (36, v318), (6, v318), (37, v318), (38, .int .i64 (((List.replicate (⟨[(⟨1, 1, false, []⟩ : Fld)] ++ [fld1, fld2, fld3].drop 1⟩ : Typ).fields.length (⟨0, []⟩ : Cel)).length : Nat) : Int)), (39, .bool false), (40, v318), (41, (.slice (some ⟨b57, 0, none⟩) 7 7)), (42, .int .i64 ((k : Nat) : Int)), (43, .pointer (some ⟨sb (.slice (some ⟨b57, 0, none⟩) 7 7), so (.slice (some ⟨b57, 0, none⟩) 7 7) + k * 1, none⟩)), (44, .int .i64 ((nums7.getD k 0))), (45, .pointer (some ⟨sb v318, so v318 + 0 * 2, none⟩)), (46, .pointer (some ⟨sb v318, so v318 + 0 * 2, none⟩)), (7, .bool (((decide (0 < (nums7.getD k 0))) && (decide ((IntKind.i64.wrap (9223372036854775807 - (nums7.getD k 0))) < (nums7.getD j 0)))) || ((decide ((nums7.getD k 0) < 0)) && (decide ((nums7.getD j 0) < (IntKind.i64.wrap ((-9223372036854775808) - (nums7.getD k 0))))))))]) ⟨rfl, rfl, rfl, rfl, rfl, rfl, rfl, rfl, rfl, rfl, rfl, rfl, rfl, rfl, rfl, rfl, rfl, rfl, rfl, rfl, rfl, rfl, (by exact e1105), trivial⟩ (fun ρw1101 => ?_)
      refine st_nil ?_
      refine WP_seq ?_
      refine WP_draw4 (WF [fun vals wq => Sep G61 w58 ((RowE (α := Cel) own 47 v318 ((List.replicate (⟨[(⟨1, 1, false, []⟩ : Fld)] ++ [fld1, fld2, fld3].drop 1⟩ : Typ).fields.length (⟨0, []⟩ : Cel)).set 0 ({ ((List.replicate (⟨[(⟨1, 1, false, []⟩ : Fld)] ++ [fld1, fld2, fld3].drop 1⟩ : Typ).fields.length (⟨0, []⟩ : Cel)).getD 0 default) with n := (nums7.getD k 0) } : Cel))) :: (RowE (α := Int) own 3 (.slice (some ⟨b57, 0, none⟩) 7 7) nums7) :: (Blk b35 #[v47] 31) :: (Blk b28 ((⟨[fld1, fld2, fld3]⟩ : Typ).cells (.slice (some ⟨bf2, 0, none⟩) 3 3)).toArray 31) :: (Blk bt1 #[(.slice (some ⟨bf2, 0, none⟩) 3 3)] 31) :: Rs) wq, fun vals wq => (vals 12 = (if (!decide ((nums7.getD j 0) = 0)) = true then (.int .i64 (mayL (⟨[(⟨1, 1, false, []⟩ : Fld)] ++ [fld1, fld2, fld3].drop 1⟩ : Typ) ((List.replicate (⟨[(⟨1, 1, false, []⟩ : Fld)] ++ [fld1, fld2, fld3].drop 1⟩ : Typ).fields.length (⟨0, []⟩ : Cel)).set 0 ({ ((List.replicate (⟨[(⟨1, 1, false, []⟩ : Fld)] ++ [fld1, fld2, fld3].drop 1⟩ : Typ).fields.length (⟨0, []⟩ : Cel)).getD 0 default) with n := (nums7.getD k 0) } : Cel)) 0 1 (nums7.getD j 0)) : Value) else undef)) ∧ Sep G61 w58 ((RowE (α := Cel) own 47 v318 ((List.replicate (⟨[(⟨1, 1, false, []⟩ : Fld)] ++ [fld1, fld2, fld3].drop 1⟩ : Typ).fields.length (⟨0, []⟩ : Cel)).set 0 ({ ((List.replicate (⟨[(⟨1, 1, false, []⟩ : Fld)] ++ [fld1, fld2, fld3].drop 1⟩ : Typ).fields.length (⟨0, []⟩ : Cel)).getD 0 default) with n := (nums7.getD k 0) } : Cel))) :: (RowE (α := Int) own 3 (.slice (some ⟨b57, 0, none⟩) 7 7) nums7) :: (Blk b35 #[v47] 31) :: (Blk b28 ((⟨[fld1, fld2, fld3]⟩ : Typ).cells (.slice (some ⟨bf2, 0, none⟩) 3 3)).toArray 31) :: (Blk bt1 #[(.slice (some ⟨bf2, 0, none⟩) 3 3)] 31) :: Rs) wq]) (AF [fun vals => vals 0 = ((.slice (some ⟨b57, 0, none⟩) 7 7) : Value), fun vals => vals 1 = (.int .i64 ((j : Nat) : Int) : Value), fun vals => vals 2 = (.pointer (some ⟨sb (.slice (some ⟨b57, 0, none⟩) 7 7), so (.slice (some ⟨b57, 0, none⟩) 7 7) + j * 1, none⟩) : Value), fun vals => vals 3 = (.int .i64 ((nums7.getD j 0)) : Value), fun vals => vals 4 = (.bool (!decide ((nums7.getD j 0) = 0)) : Value), fun vals => vals 5 = (.bool (!decide ((nums7.getD j 0) = 0)) : Value), fun vals => vals 6 = (if (!decide ((nums7.getD j 0) = 0)) = true then (.agg ((⟨[(⟨1, 1, false, []⟩ : Fld)] ++ [fld1, fld2, fld3].drop 1⟩ : Typ).cells v47).toArray : Value) else undef), fun vals => vals 7 = (if (!decide ((nums7.getD j 0) = 0)) = true then (v318 : Value) else undef), fun vals => vals 8 = (if (!decide ((nums7.getD j 0) = 0)) = true then ((.slice (some ⟨b57, 0, none⟩) 7 7) : Value) else undef), fun vals => vals 9 = (if (!decide ((nums7.getD j 0) = 0)) = true then (.int .i64 ((j : Nat) : Int) : Value) else undef), fun vals => vals 10 = (if (!decide ((nums7.getD j 0) = 0)) = true then (.pointer (some ⟨sb (.slice (some ⟨b57, 0, none⟩) 7 7), so (.slice (some ⟨b57, 0, none⟩) 7 7) + j * 1, none⟩) : Value) else undef), fun vals => vals 11 = (if (!decide ((nums7.getD j 0) = 0)) = true then (.int .i64 ((nums7.getD j 0)) : Value) else undef), fun _ => True, fun vals => vals 13 = (if (!decide ((nums7.getD j 0) = 0)) = true then (.bool (!decide ((mayL (⟨[(⟨1, 1, false, []⟩ : Fld)] ++ [fld1, fld2, fld3].drop 1⟩ : Typ) ((List.replicate (⟨[(⟨1, 1, false, []⟩ : Fld)] ++ [fld1, fld2, fld3].drop 1⟩ : Typ).fields.length (⟨0, []⟩ : Cel)).set 0 ({ ((List.replicate (⟨[(⟨1, 1, false, []⟩ : Fld)] ++ [fld1, fld2, fld3].drop 1⟩ : Typ).fields.length (⟨0, []⟩ : Cel)).getD 0 default) with n := (nums7.getD k 0) } : Cel)) 0 1 (nums7.getD j 0)) = 0)) : Value) else undef), fun vals => vals 14 = (if (!decide ((nums7.getD j 0) = 0)) = true then (.bool (((decide (0 < (nums7.getD k 0))) && (decide ((IntKind.i64.wrap (9223372036854775807 - (nums7.getD k 0))) < (nums7.getD j 0)))) || ((decide ((nums7.getD k 0) < 0)) && (decide ((nums7.getD j 0) < (IntKind.i64.wrap ((-9223372036854775808) - (nums7.getD k 0))))))) : Value) else undef), fun vals => vals 15 = (if (!decide ((nums7.getD j 0) = 0)) = true then (.bool (!((!decide ((mayL (⟨[(⟨1, 1, false, []⟩ : Fld)] ++ [fld1, fld2, fld3].drop 1⟩ : Typ) ((List.replicate (⟨[(⟨1, 1, false, []⟩ : Fld)] ++ [fld1, fld2, fld3].drop 1⟩ : Typ).fields.length (⟨0, []⟩ : Cel)).set 0 ({ ((List.replicate (⟨[(⟨1, 1, false, []⟩ : Fld)] ++ [fld1, fld2, fld3].drop 1⟩ : Typ).fields.length (⟨0, []⟩ : Cel)).getD 0 default) with n := (nums7.getD k 0) } : Cel)) 0 1 (nums7.getD j 0)) = 0)) == (((decide (0 < (nums7.getD k 0))) && (decide ((IntKind.i64.wrap (9223372036854775807 - (nums7.getD k 0))) < (nums7.getD j 0)))) || ((decide ((nums7.getD k 0) < 0)) && (decide ((nums7.getD j 0) < (IntKind.i64.wrap ((-9223372036854775808) - (nums7.getD k 0))))))))) : Value) else undef), fun vals => vals 16 = (.bool ((!decide ((nums7.getD j 0) = 0)) && (!((!decide ((mayL (⟨[(⟨1, 1, false, []⟩ : Fld)] ++ [fld1, fld2, fld3].drop 1⟩ : Typ) ((List.replicate (⟨[(⟨1, 1, false, []⟩ : Fld)] ++ [fld1, fld2, fld3].drop 1⟩ : Typ).fields.length (⟨0, []⟩ : Cel)).set 0 ({ ((List.replicate (⟨[(⟨1, 1, false, []⟩ : Fld)] ++ [fld1, fld2, fld3].drop 1⟩ : Typ).fields.length (⟨0, []⟩ : Cel)).getD 0 default) with n := (nums7.getD k 0) } : Cel)) 0 1 (nums7.getD j 0)) = 0)) == (((decide (0 < (nums7.getD k 0))) && (decide ((IntKind.i64.wrap (9223372036854775807 - (nums7.getD k 0))) < (nums7.getD j 0)))) || ((decide ((nums7.getD k 0) < 0)) && (decide ((nums7.getD j 0) < (IntKind.i64.wrap ((-9223372036854775808) - (nums7.getD k 0)))))))))) : Value)]) [[], [], [0, 1], [0, 1, 2], [0, 1, 2, 3], [0, 1, 2, 3, 4], [0, 1, 2, 3, 4, 5], [0, 1, 2, 3, 4, 5], [0, 1, 2, 3, 4, 5], [0, 1, 2, 3, 4, 5], [0, 1, 2, 3, 4, 5, 8, 9], [0, 1, 2, 3, 4, 5, 8, 9, 10], [0, 1, 2, 3, 4, 5, 6, 7, 8, 9, 10, 11], [0, 1, 2, 3, 4, 5, 6, 7, 8, 9, 10, 11, 12], [0, 1, 2, 3, 4, 5], [0, 1, 2, 3, 4, 5, 6, 7, 8, 9, 10, 11, 12, 13, 14], [0, 1, 2, 3, 4, 5, 6, 7, 8, 9, 10, 11, 12, 13, 14, 15]] [12] [(0, 0), (0, 0), (0, 0), (0, 0), (0, 0), (0, 0), (0, 0), (0, 0), (0, 0), (0, 0), (0, 0), (0, 0), (0, 0), (1, 1), (0, 1), (1, 1), (1, 1)] (by kernel_rfl) (by kernel_rfl) (by kernel_rfl) rfl (by kernel_rfl) (by kernel_rfl) (fun _ h1 h2 h3 h4 _ => hS1104.same h1 h2 h3 h4) ?_ ?_ ⟨?_, ?_, ?_, ?_, ?_, ?_, ?_, ?_, ?_, ?_, ?_, ?_, ?_, ?_, ?_, ?_, ?_, trivial⟩ ?_
      · intro k vals vals' w hv h
        have e : ∀ j ∈ ([12] : List Nat), vals' j = vals j := hv
        match k, h with
        | 0, h => exact h
        | 1, h => exact (by simpa only [WF, List.getElem?_cons_zero, List.getElem?_cons_succ, e 12 (by decide)] using h)
        | _ + 2, _ => trivial
      · intro i vals vals' hv h
        match i, hv, h with
        | 0, hv, h => exact (hv 0 (.inl rfl)).trans h
        | 1, hv, h => exact (hv 1 (.inl rfl)).trans h
        | 2, hv, h => exact (hv 2 (.inl rfl)).trans h
        | 3, hv, h => exact (hv 3 (.inl rfl)).trans h
        | 4, hv, h => exact (hv 4 (.inl rfl)).trans h
        | 5, hv, h => exact (hv 5 (.inl rfl)).trans h
        | 6, hv, h => exact (hv 6 (.inl rfl)).trans h
        | 7, hv, h => exact (hv 7 (.inl rfl)).trans h
        | 8, hv, h => exact (hv 8 (.inl rfl)).trans h
        | 9, hv, h => exact (hv 9 (.inl rfl)).trans h
        | 10, hv, h => exact (hv 10 (.inl rfl)).trans h
        | 11, hv, h => exact (hv 11 (.inl rfl)).trans h
        | 12, _, _ => trivial
        | 13, hv, h => exact (hv 13 (.inl rfl)).trans h
        | 14, hv, h => exact (hv 14 (.inl rfl)).trans h
        | 15, hv, h => exact (hv 15 (.inl rfl)).trans h
        | 16, hv, h => exact (hv 16 (.inl rfl)).trans h
        | _ + 17, _, _ => trivial
      · intro k1282 vals w1283 h1286 h1287 hW1285 hA1284
        refine obl rfl ?_
        exact ov_move (v := (.slice (some ⟨b57, 0, none⟩) 7 7)) rfl (fun vals' hv _ => ⟨rfl, hv⟩)
      · intro k1288 vals w1289 h1292 h1293 hW1291 hA1290
        refine obl rfl ?_
        exact ov_move (v := .int .i64 ((j : Nat) : Int)) rfl (fun vals' hv _ => ⟨rfl, hv⟩)
      · intro k1294 vals w1295 h1298 h1299 hW1297 hA1296
        obtain rfl : k1294 = 0 := Nat.le_antisymm h1299 h1298
        have hS1300 : Sep G61 w58 ((RowE (α := Cel) own 47 v318 ((List.replicate (⟨[(⟨1, 1, false, []⟩ : Fld)] ++ [fld1, fld2, fld3].drop 1⟩ : Typ).fields.length (⟨0, []⟩ : Cel)).set 0 ({ ((List.replicate (⟨[(⟨1, 1, false, []⟩ : Fld)] ++ [fld1, fld2, fld3].drop 1⟩ : Typ).fields.length (⟨0, []⟩ : Cel)).getD 0 default) with n := (nums7.getD k 0) } : Cel))) :: (RowE (α := Int) own 3 (.slice (some ⟨b57, 0, none⟩) 7 7) nums7) :: (Blk b35 #[v47] 31) :: (Blk b28 ((⟨[fld1, fld2, fld3]⟩ : Typ).cells (.slice (some ⟨bf2, 0, none⟩) 3 3)).toArray 31) :: (Blk bt1 #[(.slice (some ⟨bf2, 0, none⟩) 3 3)] 31) :: Rs) w1295 := hW1297
        have e1301 : vals 0 = ((.slice (some ⟨b57, 0, none⟩) 7 7) : Value) := hA1296 0 (by decide)
        have e1302 : vals 1 = (.int .i64 ((j : Nat) : Int) : Value) := hA1296 1 (by decide)
        refine obl rfl ?_
        have hi1303 : j < nums7.length := (by first | omega | decide +kernel)
        exact ov_indexAddrN (k := 1) (i := j) Try.underlying44 Try.sizeOf3 (show _ = ((.slice (some ⟨b57, 0, none⟩) 7 7) : Value) from e1301) hr71.1 (show _ = (.int .i64 ((j : Nat) : Int) : Value) from e1302) hi1303 (fun vals' hv _ => ⟨rfl, hv⟩)
      · intro k1304 vals w1305 h1308 h1309 hW1307 hA1306
        obtain rfl : k1304 = 0 := Nat.le_antisymm h1309 h1308
        have hS1310 : Sep G61 w58 ((RowE (α := Cel) own 47 v318 ((List.replicate (⟨[(⟨1, 1, false, []⟩ : Fld)] ++ [fld1, fld2, fld3].drop 1⟩ : Typ).fields.length (⟨0, []⟩ : Cel)).set 0 ({ ((List.replicate (⟨[(⟨1, 1, false, []⟩ : Fld)] ++ [fld1, fld2, fld3].drop 1⟩ : Typ).fields.length (⟨0, []⟩ : Cel)).getD 0 default) with n := (nums7.getD k 0) } : Cel))) :: (RowE (α := Int) own 3 (.slice (some ⟨b57, 0, none⟩) 7 7) nums7) :: (Blk b35 #[v47] 31) :: (Blk b28 ((⟨[fld1, fld2, fld3]⟩ : Typ).cells (.slice (some ⟨bf2, 0, none⟩) 3 3)).toArray 31) :: (Blk bt1 #[(.slice (some ⟨bf2, 0, none⟩) 3 3)] 31) :: Rs) w1305 := hW1307
        have e1311 : vals 2 = (.pointer (some ⟨sb (.slice (some ⟨b57, 0, none⟩) 7 7), so (.slice (some ⟨b57, 0, none⟩) 7 7) + j * 1, none⟩) : Value) := hA1306 2 (by decide)
        refine obl rfl ?_
        have hi1313 : j < nums7.length := (by first | omega | decide +kernel)
        obtain ⟨_, _, hce1312, rfl, hxe1312⟩ := hS1310.rowAt (i := 1) (j := j) rfl hi1313
        rw [← getD_at 0 hi1313] at hce1312 hxe1312
        exact ov_load1 (v := .int .i64 ((nums7.getD j 0))) Try.isAgg3 (show _ = (.pointer (some ⟨sb (.slice (some ⟨b57, 0, none⟩) 7 7), so (.slice (some ⟨b57, 0, none⟩) 7 7) + j * 1, none⟩) : Value) from e1311) (hce1312.get (j := 0) rfl) (fun vals' hv _ => ⟨rfl, hv⟩)
      · intro k1314 vals w1315 h1318 h1319 hW1317 hA1316
        obtain rfl : k1314 = 0 := Nat.le_antisymm h1319 h1318
        have hS1320 : Sep G61 w58 ((RowE (α := Cel) own 47 v318 ((List.replicate (⟨[(⟨1, 1, false, []⟩ : Fld)] ++ [fld1, fld2, fld3].drop 1⟩ : Typ).fields.length (⟨0, []⟩ : Cel)).set 0 ({ ((List.replicate (⟨[(⟨1, 1, false, []⟩ : Fld)] ++ [fld1, fld2, fld3].drop 1⟩ : Typ).fields.length (⟨0, []⟩ : Cel)).getD 0 default) with n := (nums7.getD k 0) } : Cel))) :: (RowE (α := Int) own 3 (.slice (some ⟨b57, 0, none⟩) 7 7) nums7) :: (Blk b35 #[v47] 31) :: (Blk b28 ((⟨[fld1, fld2, fld3]⟩ : Typ).cells (.slice (some ⟨bf2, 0, none⟩) 3 3)).toArray 31) :: (Blk bt1 #[(.slice (some ⟨bf2, 0, none⟩) 3 3)] 31) :: Rs) w1315 := hW1317
        have e1321 : vals 3 = (.int .i64 ((nums7.getD j 0)) : Value) := hA1316 3 (by decide)
        refine obl rfl ?_
        exact ov_neq (k := .i64) (a := (nums7.getD j 0)) (b := 0) (show _ = (.int .i64 ((nums7.getD j 0)) : Value) from e1321) rfl (fun vals' hv _ => ⟨rfl, hv⟩)
      · intro k1322 vals w1323 h1326 h1327 hW1325 hA1324
        have e1328 : vals 4 = (.bool (!decide ((nums7.getD j 0) = 0)) : Value) := hA1324 4 (by decide)
        refine obl rfl ?_
        exact ov_move (v := .bool (!decide ((nums7.getD j 0) = 0))) (show _ = (.bool (!decide ((nums7.getD j 0) = 0)) : Value) from e1328) (fun vals' hv _ => ⟨rfl, hv⟩)
      · intro k1329 vals w1330 h1333 h1334 hW1332 hA1331
        obtain rfl : k1329 = 0 := Nat.le_antisymm h1334 h1333
        have hS1335 : Sep G61 w58 ((RowE (α := Cel) own 47 v318 ((List.replicate (⟨[(⟨1, 1, false, []⟩ : Fld)] ++ [fld1, fld2, fld3].drop 1⟩ : Typ).fields.length (⟨0, []⟩ : Cel)).set 0 ({ ((List.replicate (⟨[(⟨1, 1, false, []⟩ : Fld)] ++ [fld1, fld2, fld3].drop 1⟩ : Typ).fields.length (⟨0, []⟩ : Cel)).getD 0 default) with n := (nums7.getD k 0) } : Cel))) :: (RowE (α := Int) own 3 (.slice (some ⟨b57, 0, none⟩) 7 7) nums7) :: (Blk b35 #[v47] 31) :: (Blk b28 ((⟨[fld1, fld2, fld3]⟩ : Typ).cells (.slice (some ⟨bf2, 0, none⟩) 3 3)).toArray 31) :: (Blk bt1 #[(.slice (some ⟨bf2, 0, none⟩) 3 3)] 31) :: Rs) w1330 := hW1332
        have e1336 : vals 5 = (.bool (!decide ((nums7.getD j 0) = 0)) : Value) := hA1331 5 (by decide)
        refine oblc rfl rfl (show _ = (.bool (!decide ((nums7.getD j 0) = 0)) : Value) from e1336) (fun hb1337 => ?_) (fun hb1337 => fun vals' hv _ => ⟨trivial, hv.trans (if_neg hb1337).symm⟩)
        have hl1338 : (!decide ((nums7.getD j 0) = 0)) = true := hb1337
        have hl1338 := ndec_true hl1338
        have ok1339 : Typ.Ok (⟨[(⟨1, 1, false, []⟩ : Fld)] ++ [fld1, fld2, fld3].drop 1⟩ : Typ) := ⟨⟩
        exact ov_loadk (k := 1) Try.isAgg31 Try.sizeOf31 rfl rfl (CellsAt.all (hS1335.blk (i := 2) rfl)) (fun vals' hv _ => ⟨rfl, hv.trans (if_pos hb1337).symm⟩)
      · intro k1340 vals w1341 h1344 h1345 hW1343 hA1342
        have e1346 : vals 5 = (.bool (!decide ((nums7.getD j 0) = 0)) : Value) := hA1342 5 (by decide)
        refine oblc rfl rfl (show _ = (.bool (!decide ((nums7.getD j 0) = 0)) : Value) from e1346) (fun hb1347 => ?_) (fun hb1347 => fun vals' hv _ => ⟨trivial, hv.trans (if_neg hb1347).symm⟩)
        have hl1348 : (!decide ((nums7.getD j 0) = 0)) = true := hb1347
        have hl1348 := ndec_true hl1348
        exact ov_move (v := v318) rfl (fun vals' hv _ => ⟨rfl, hv.trans (if_pos hb1347).symm⟩)
      · intro k1349 vals w1350 h1353 h1354 hW1352 hA1351
        have e1355 : vals 5 = (.bool (!decide ((nums7.getD j 0) = 0)) : Value) := hA1351 5 (by decide)
        refine oblc rfl rfl (show _ = (.bool (!decide ((nums7.getD j 0) = 0)) : Value) from e1355) (fun hb1356 => ?_) (fun hb1356 => fun vals' hv _ => ⟨trivial, hv.trans (if_neg hb1356).symm⟩)
        have hl1357 : (!decide ((nums7.getD j 0) = 0)) = true := hb1356
        have hl1357 := ndec_true hl1357
        exact ov_move (v := (.slice (some ⟨b57, 0, none⟩) 7 7)) rfl (fun vals' hv _ => ⟨rfl, hv.trans (if_pos hb1356).symm⟩)
      · intro k1358 vals w1359 h1362 h1363 hW1361 hA1360
        have e1364 : vals 5 = (.bool (!decide ((nums7.getD j 0) = 0)) : Value) := hA1360 5 (by decide)
        refine oblc rfl rfl (show _ = (.bool (!decide ((nums7.getD j 0) = 0)) : Value) from e1364) (fun hb1365 => ?_) (fun hb1365 => fun vals' hv _ => ⟨trivial, hv.trans (if_neg hb1365).symm⟩)
        have hl1366 : (!decide ((nums7.getD j 0) = 0)) = true := hb1365
        have hl1366 := ndec_true hl1366
        exact ov_move (v := .int .i64 ((j : Nat) : Int)) rfl (fun vals' hv _ => ⟨rfl, hv.trans (if_pos hb1365).symm⟩)
      · intro k1367 vals w1368 h1371 h1372 hW1370 hA1369
        obtain rfl : k1367 = 0 := Nat.le_antisymm h1372 h1371
        have hS1373 : Sep G61 w58 ((RowE (α := Cel) own 47 v318 ((List.replicate (⟨[(⟨1, 1, false, []⟩ : Fld)] ++ [fld1, fld2, fld3].drop 1⟩ : Typ).fields.length (⟨0, []⟩ : Cel)).set 0 ({ ((List.replicate (⟨[(⟨1, 1, false, []⟩ : Fld)] ++ [fld1, fld2, fld3].drop 1⟩ : Typ).fields.length (⟨0, []⟩ : Cel)).getD 0 default) with n := (nums7.getD k 0) } : Cel))) :: (RowE (α := Int) own 3 (.slice (some ⟨b57, 0, none⟩) 7 7) nums7) :: (Blk b35 #[v47] 31) :: (Blk b28 ((⟨[fld1, fld2, fld3]⟩ : Typ).cells (.slice (some ⟨bf2, 0, none⟩) 3 3)).toArray 31) :: (Blk bt1 #[(.slice (some ⟨bf2, 0, none⟩) 3 3)] 31) :: Rs) w1368 := hW1370
        have e1374 : vals 5 = (.bool (!decide ((nums7.getD j 0) = 0)) : Value) := hA1369 5 (by decide)
        have e1375 : vals 8 = (if (!decide ((nums7.getD j 0) = 0)) = true then ((.slice (some ⟨b57, 0, none⟩) 7 7) : Value) else undef) := hA1369 8 (by decide)
        have e1376 : vals 9 = (if (!decide ((nums7.getD j 0) = 0)) = true then (.int .i64 ((j : Nat) : Int) : Value) else undef) := hA1369 9 (by decide)
        refine oblc rfl rfl (show _ = (.bool (!decide ((nums7.getD j 0) = 0)) : Value) from e1374) (fun hb1377 => ?_) (fun hb1377 => fun vals' hv _ => ⟨trivial, hv.trans (if_neg hb1377).symm⟩)
        have hl1378 : (!decide ((nums7.getD j 0) = 0)) = true := hb1377
        have hl1378 := ndec_true hl1378
        have hi1379 : j < nums7.length := (by first | omega | decide +kernel)
        exact ov_indexAddrN (k := 1) (i := j) Try.underlying44 Try.sizeOf3 (show _ = ((.slice (some ⟨b57, 0, none⟩) 7 7) : Value) from (Eq.trans e1375 (if_pos hb1377))) hr71.1 (show _ = (.int .i64 ((j : Nat) : Int) : Value) from (Eq.trans e1376 (if_pos hb1377))) hi1379 (fun vals' hv _ => ⟨rfl, hv.trans (if_pos hb1377).symm⟩)
      · intro k1380 vals w1381 h1384 h1385 hW1383 hA1382
        obtain rfl : k1380 = 0 := Nat.le_antisymm h1385 h1384
        have hS1386 : Sep G61 w58 ((RowE (α := Cel) own 47 v318 ((List.replicate (⟨[(⟨1, 1, false, []⟩ : Fld)] ++ [fld1, fld2, fld3].drop 1⟩ : Typ).fields.length (⟨0, []⟩ : Cel)).set 0 ({ ((List.replicate (⟨[(⟨1, 1, false, []⟩ : Fld)] ++ [fld1, fld2, fld3].drop 1⟩ : Typ).fields.length (⟨0, []⟩ : Cel)).getD 0 default) with n := (nums7.getD k 0) } : Cel))) :: (RowE (α := Int) own 3 (.slice (some ⟨b57, 0, none⟩) 7 7) nums7) :: (Blk b35 #[v47] 31) :: (Blk b28 ((⟨[fld1, fld2, fld3]⟩ : Typ).cells (.slice (some ⟨bf2, 0, none⟩) 3 3)).toArray 31) :: (Blk bt1 #[(.slice (some ⟨bf2, 0, none⟩) 3 3)] 31) :: Rs) w1381 := hW1383
        have e1387 : vals 5 = (.bool (!decide ((nums7.getD j 0) = 0)) : Value) := hA1382 5 (by decide)
        have e1388 : vals 10 = (if (!decide ((nums7.getD j 0) = 0)) = true then (.pointer (some ⟨sb (.slice (some ⟨b57, 0, none⟩) 7 7), so (.slice (some ⟨b57, 0, none⟩) 7 7) + j * 1, none⟩) : Value) else undef) := hA1382 10 (by decide)
        refine oblc rfl rfl (show _ = (.bool (!decide ((nums7.getD j 0) = 0)) : Value) from e1387) (fun hb1389 => ?_) (fun hb1389 => fun vals' hv _ => ⟨trivial, hv.trans (if_neg hb1389).symm⟩)
        have hl1390 : (!decide ((nums7.getD j 0) = 0)) = true := hb1389
        have hl1390 := ndec_true hl1390
        have hi1392 : j < nums7.length := (by first | omega | decide +kernel)
        obtain ⟨_, _, hce1391, rfl, hxe1391⟩ := hS1386.rowAt (i := 1) (j := j) rfl hi1392
        rw [← getD_at 0 hi1392] at hce1391 hxe1391
        exact ov_load1 (v := .int .i64 ((nums7.getD j 0))) Try.isAgg3 (show _ = (.pointer (some ⟨sb (.slice (some ⟨b57, 0, none⟩) 7 7), so (.slice (some ⟨b57, 0, none⟩) 7 7) + j * 1, none⟩) : Value) from (Eq.trans e1388 (if_pos hb1389))) (hce1391.get (j := 0) rfl) (fun vals' hv _ => ⟨rfl, hv.trans (if_pos hb1389).symm⟩)
      · intro k1217 vals w1218 h1221 h1222 hW1220 hA1219
        obtain rfl : k1217 = 0 := Nat.le_antisymm h1222 h1221
        have hS1223 : Sep G61 w58 ((RowE (α := Cel) own 47 v318 ((List.replicate (⟨[(⟨1, 1, false, []⟩ : Fld)] ++ [fld1, fld2, fld3].drop 1⟩ : Typ).fields.length (⟨0, []⟩ : Cel)).set 0 ({ ((List.replicate (⟨[(⟨1, 1, false, []⟩ : Fld)] ++ [fld1, fld2, fld3].drop 1⟩ : Typ).fields.length (⟨0, []⟩ : Cel)).getD 0 default) with n := (nums7.getD k 0) } : Cel))) :: (RowE (α := Int) own 3 (.slice (some ⟨b57, 0, none⟩) 7 7) nums7) :: (Blk b35 #[v47] 31) :: (Blk b28 ((⟨[fld1, fld2, fld3]⟩ : Typ).cells (.slice (some ⟨bf2, 0, none⟩) 3 3)).toArray 31) :: (Blk bt1 #[(.slice (some ⟨bf2, 0, none⟩) 3 3)] 31) :: Rs) w1218 := hW1220
        have e1224 : vals 5 = (.bool (!decide ((nums7.getD j 0) = 0)) : Value) := hA1219 5 (by decide)
        have e1225 : vals 6 = (if (!decide ((nums7.getD j 0) = 0)) = true then (.agg ((⟨[(⟨1, 1, false, []⟩ : Fld)] ++ [fld1, fld2, fld3].drop 1⟩ : Typ).cells v47).toArray : Value) else undef) := hA1219 6 (by decide)
        have e1226 : vals 7 = (if (!decide ((nums7.getD j 0) = 0)) = true then (v318 : Value) else undef) := hA1219 7 (by decide)
        have e1227 : vals 11 = (if (!decide ((nums7.getD j 0) = 0)) = true then (.int .i64 ((nums7.getD j 0)) : Value) else undef) := hA1219 11 (by decide)
        refine oblc rfl rfl (show _ = (.bool (!decide ((nums7.getD j 0) = 0)) : Value) from e1224) (fun hb1228 => ?_) (fun hb1228 vals' hv hv' => ?_)
        · skip
          have hl1229 : (!decide ((nums7.getD j 0) = 0)) = true := hb1228
          have hl1229 := ndec_true hl1229
          have hi1231 : j < nums7.length := (by first | omega | decide +kernel)
          obtain ⟨_, _, hce1230, rfl, hxe1230⟩ := hS1223.rowAt (i := 1) (j := j) rfl hi1231
          rw [← getD_at 0 hi1231] at hce1230 hxe1230
          obtain ⟨G1232, hA1234, hB1235, hS1236, hk1237⟩ := hS1223.lend
          have hrd1238 := RowE.rd hA1234
          have hrd1238s : ((List.replicate (⟨[(⟨1, 1, false, []⟩ : Fld)] ++ [fld1, fld2, fld3].drop 1⟩ : Typ).fields.length (⟨0, []⟩ : Cel)).set 0 ({ ((List.replicate (⟨[(⟨1, 1, false, []⟩ : Fld)] ++ [fld1, fld2, fld3].drop 1⟩ : Typ).fields.length (⟨0, []⟩ : Cel)).getD 0 default) with n := (nums7.getD k 0) } : Cel)).length * 32 ≤ 140737488355328 := hrd1238.small
          refine (ov_call (f := 10) (vals := [.agg ((⟨[(⟨1, 1, false, []⟩ : Fld)] ++ [fld1, fld2, fld3].drop 1⟩ : Typ).cells v47).toArray, v318, .int .i64 (0), .int .i64 (1), .int .i64 ((nums7.getD j 0))]) (cap := []) (show _ = (.func (.func 10) #[] #[] : Value) from rfl) (mapL ⟨(show _ = (.agg ((⟨[(⟨1, 1, false, []⟩ : Fld)] ++ [fld1, fld2, fld3].drop 1⟩ : Typ).cells v47).toArray : Value) from (Eq.trans e1225 (if_pos hb1228))), (show _ = (v318 : Value) from (Eq.trans e1226 (if_pos hb1228))), rfl, rfl, (show _ = (.int .i64 ((nums7.getD j 0)) : Value) from (Eq.trans e1227 (if_pos hb1228))), trivial⟩) Try.call10 (D_May (t := (⟨[(⟨1, 1, false, []⟩ : Fld)] ++ [fld1, fld2, fld3].drop 1⟩ : Typ)) (c := (List.replicate (⟨[(⟨1, 1, false, []⟩ : Fld)] ++ [fld1, fld2, fld3].drop 1⟩ : Typ).fields.length (⟨0, []⟩ : Cel)).set 0 ({ ((List.replicate (⟨[(⟨1, 1, false, []⟩ : Fld)] ++ [fld1, fld2, fld3].drop 1⟩ : Typ).fields.length (⟨0, []⟩ : Cel)).getD 0 default) with n := (nums7.getD k 0) } : Cel)) (vc := v318) (f := 0) (op := 1) (arg := (nums7.getD j 0)) (RdS.base hrd67 hB1235) ok317 hrd1238 (by decide) (by decide) hxe1230 hS1236 ((by first | exact set_ask q (by omega) | (rw [h64]; decide +kernel) | exact ⟨by decide +kernel, by decide +kernel, by first | omega | decide +kernel | (rw [List.length_set]; decide +kernel), fun h => by omega, fun h => by omega⟩))) ?_)
          rintro _ w1239 ⟨rfl, hS1240⟩
          have hS1241 : Sep G61 w58 ((RowE (α := Cel) own 47 v318 ((List.replicate (⟨[(⟨1, 1, false, []⟩ : Fld)] ++ [fld1, fld2, fld3].drop 1⟩ : Typ).fields.length (⟨0, []⟩ : Cel)).set 0 ({ ((List.replicate (⟨[(⟨1, 1, false, []⟩ : Fld)] ++ [fld1, fld2, fld3].drop 1⟩ : Typ).fields.length (⟨0, []⟩ : Cel)).getD 0 default) with n := (nums7.getD k 0) } : Cel))) :: (RowE (α := Int) own 3 (.slice (some ⟨b57, 0, none⟩) 7 7) nums7) :: (Blk b35 #[v47] 31) :: (Blk b28 ((⟨[fld1, fld2, fld3]⟩ : Typ).cells (.slice (some ⟨bf2, 0, none⟩) 3 3)).toArray 31) :: (Blk bt1 #[(.slice (some ⟨bf2, 0, none⟩) 3 3)] 31) :: Rs) w1239 := hk1237 _ _ hS1240
          intro vals' hv hv'
          refine ⟨?_, trivial⟩
          show (vals' 12 = (if (!decide ((nums7.getD j 0) = 0)) = true then (.int .i64 (mayL (⟨[(⟨1, 1, false, []⟩ : Fld)] ++ [fld1, fld2, fld3].drop 1⟩ : Typ) ((List.replicate (⟨[(⟨1, 1, false, []⟩ : Fld)] ++ [fld1, fld2, fld3].drop 1⟩ : Typ).fields.length (⟨0, []⟩ : Cel)).set 0 ({ ((List.replicate (⟨[(⟨1, 1, false, []⟩ : Fld)] ++ [fld1, fld2, fld3].drop 1⟩ : Typ).fields.length (⟨0, []⟩ : Cel)).getD 0 default) with n := (nums7.getD k 0) } : Cel)) 0 1 (nums7.getD j 0)) : Value) else undef)) ∧ Sep G61 w58 ((RowE (α := Cel) own 47 v318 ((List.replicate (⟨[(⟨1, 1, false, []⟩ : Fld)] ++ [fld1, fld2, fld3].drop 1⟩ : Typ).fields.length (⟨0, []⟩ : Cel)).set 0 ({ ((List.replicate (⟨[(⟨1, 1, false, []⟩ : Fld)] ++ [fld1, fld2, fld3].drop 1⟩ : Typ).fields.length (⟨0, []⟩ : Cel)).getD 0 default) with n := (nums7.getD k 0) } : Cel))) :: (RowE (α := Int) own 3 (.slice (some ⟨b57, 0, none⟩) 7 7) nums7) :: (Blk b35 #[v47] 31) :: (Blk b28 ((⟨[fld1, fld2, fld3]⟩ : Typ).cells (.slice (some ⟨bf2, 0, none⟩) 3 3)).toArray 31) :: (Blk bt1 #[(.slice (some ⟨bf2, 0, none⟩) 3 3)] 31) :: Rs) w1239
          exact ⟨(hv.trans (if_pos hb1228).symm), hS1241⟩
        · skip
          refine ⟨?_, trivial⟩
          show (vals' 12 = (if (!decide ((nums7.getD j 0) = 0)) = true then (.int .i64 (mayL (⟨[(⟨1, 1, false, []⟩ : Fld)] ++ [fld1, fld2, fld3].drop 1⟩ : Typ) ((List.replicate (⟨[(⟨1, 1, false, []⟩ : Fld)] ++ [fld1, fld2, fld3].drop 1⟩ : Typ).fields.length (⟨0, []⟩ : Cel)).set 0 ({ ((List.replicate (⟨[(⟨1, 1, false, []⟩ : Fld)] ++ [fld1, fld2, fld3].drop 1⟩ : Typ).fields.length (⟨0, []⟩ : Cel)).getD 0 default) with n := (nums7.getD k 0) } : Cel)) 0 1 (nums7.getD j 0)) : Value) else undef)) ∧ Sep G61 w58 ((RowE (α := Cel) own 47 v318 ((List.replicate (⟨[(⟨1, 1, false, []⟩ : Fld)] ++ [fld1, fld2, fld3].drop 1⟩ : Typ).fields.length (⟨0, []⟩ : Cel)).set 0 ({ ((List.replicate (⟨[(⟨1, 1, false, []⟩ : Fld)] ++ [fld1, fld2, fld3].drop 1⟩ : Typ).fields.length (⟨0, []⟩ : Cel)).getD 0 default) with n := (nums7.getD k 0) } : Cel))) :: (RowE (α := Int) own 3 (.slice (some ⟨b57, 0, none⟩) 7 7) nums7) :: (Blk b35 #[v47] 31) :: (Blk b28 ((⟨[fld1, fld2, fld3]⟩ : Typ).cells (.slice (some ⟨bf2, 0, none⟩) 3 3)).toArray 31) :: (Blk bt1 #[(.slice (some ⟨bf2, 0, none⟩) 3 3)] 31) :: Rs) w1218
          exact ⟨(hv.trans (if_neg hb1228).symm), hS1223⟩
      · intro k1393 vals w1394 h1397 h1398 hW1396 hA1395
        obtain rfl : k1393 = 1 := Nat.le_antisymm h1398 h1397
        obtain ⟨he1242, hS1399⟩ : (vals 12 = (if (!decide ((nums7.getD j 0) = 0)) = true then (.int .i64 (mayL (⟨[(⟨1, 1, false, []⟩ : Fld)] ++ [fld1, fld2, fld3].drop 1⟩ : Typ) ((List.replicate (⟨[(⟨1, 1, false, []⟩ : Fld)] ++ [fld1, fld2, fld3].drop 1⟩ : Typ).fields.length (⟨0, []⟩ : Cel)).set 0 ({ ((List.replicate (⟨[(⟨1, 1, false, []⟩ : Fld)] ++ [fld1, fld2, fld3].drop 1⟩ : Typ).fields.length (⟨0, []⟩ : Cel)).getD 0 default) with n := (nums7.getD k 0) } : Cel)) 0 1 (nums7.getD j 0)) : Value) else undef)) ∧ Sep G61 w58 ((RowE (α := Cel) own 47 v318 ((List.replicate (⟨[(⟨1, 1, false, []⟩ : Fld)] ++ [fld1, fld2, fld3].drop 1⟩ : Typ).fields.length (⟨0, []⟩ : Cel)).set 0 ({ ((List.replicate (⟨[(⟨1, 1, false, []⟩ : Fld)] ++ [fld1, fld2, fld3].drop 1⟩ : Typ).fields.length (⟨0, []⟩ : Cel)).getD 0 default) with n := (nums7.getD k 0) } : Cel))) :: (RowE (α := Int) own 3 (.slice (some ⟨b57, 0, none⟩) 7 7) nums7) :: (Blk b35 #[v47] 31) :: (Blk b28 ((⟨[fld1, fld2, fld3]⟩ : Typ).cells (.slice (some ⟨bf2, 0, none⟩) 3 3)).toArray 31) :: (Blk bt1 #[(.slice (some ⟨bf2, 0, none⟩) 3 3)] 31) :: Rs) w1394 := hW1396
        have e1400 : vals 5 = (.bool (!decide ((nums7.getD j 0) = 0)) : Value) := hA1395 5 (by decide)
        refine oblc rfl rfl (show _ = (.bool (!decide ((nums7.getD j 0) = 0)) : Value) from e1400) (fun hb1401 => ?_) (fun hb1401 => fun vals' hv _ => ⟨trivial, hv.trans (if_neg hb1401).symm⟩)
        have hl1402 : (!decide ((nums7.getD j 0) = 0)) = true := hb1401
        have hl1402 := ndec_true hl1402
        exact ov_neq (k := .i64) (a := mayL (⟨[(⟨1, 1, false, []⟩ : Fld)] ++ [fld1, fld2, fld3].drop 1⟩ : Typ) ((List.replicate (⟨[(⟨1, 1, false, []⟩ : Fld)] ++ [fld1, fld2, fld3].drop 1⟩ : Typ).fields.length (⟨0, []⟩ : Cel)).set 0 ({ ((List.replicate (⟨[(⟨1, 1, false, []⟩ : Fld)] ++ [fld1, fld2, fld3].drop 1⟩ : Typ).fields.length (⟨0, []⟩ : Cel)).getD 0 default) with n := (nums7.getD k 0) } : Cel)) 0 1 (nums7.getD j 0)) (b := 0) (show _ = (.int .i64 (mayL (⟨[(⟨1, 1, false, []⟩ : Fld)] ++ [fld1, fld2, fld3].drop 1⟩ : Typ) ((List.replicate (⟨[(⟨1, 1, false, []⟩ : Fld)] ++ [fld1, fld2, fld3].drop 1⟩ : Typ).fields.length (⟨0, []⟩ : Cel)).set 0 ({ ((List.replicate (⟨[(⟨1, 1, false, []⟩ : Fld)] ++ [fld1, fld2, fld3].drop 1⟩ : Typ).fields.length (⟨0, []⟩ : Cel)).getD 0 default) with n := (nums7.getD k 0) } : Cel)) 0 1 (nums7.getD j 0)) : Value) from (Eq.trans he1242 (if_pos hb1401))) rfl (fun vals' hv _ => ⟨rfl, hv.trans (if_pos hb1401).symm⟩)
      · intro k1403 vals w1404 h1407 h1408 hW1406 hA1405
        have e1409 : vals 5 = (.bool (!decide ((nums7.getD j 0) = 0)) : Value) := hA1405 5 (by decide)
        refine oblc rfl rfl (show _ = (.bool (!decide ((nums7.getD j 0) = 0)) : Value) from e1409) (fun hb1410 => ?_) (fun hb1410 => fun vals' hv _ => ⟨trivial, hv.trans (if_neg hb1410).symm⟩)
        have hl1411 : (!decide ((nums7.getD j 0) = 0)) = true := hb1410
        have hl1411 := ndec_true hl1411
        exact ov_move (v := .bool (((decide (0 < (nums7.getD k 0))) && (decide ((IntKind.i64.wrap (9223372036854775807 - (nums7.getD k 0))) < (nums7.getD j 0)))) || ((decide ((nums7.getD k 0) < 0)) && (decide ((nums7.getD j 0) < (IntKind.i64.wrap ((-9223372036854775808) - (nums7.getD k 0)))))))) rfl (fun vals' hv _ => ⟨rfl, hv.trans (if_pos hb1410).symm⟩)
      · intro k1412 vals w1413 h1416 h1417 hW1415 hA1414
        obtain rfl : k1412 = 1 := Nat.le_antisymm h1417 h1416
        obtain ⟨he1242, hS1418⟩ : (vals 12 = (if (!decide ((nums7.getD j 0) = 0)) = true then (.int .i64 (mayL (⟨[(⟨1, 1, false, []⟩ : Fld)] ++ [fld1, fld2, fld3].drop 1⟩ : Typ) ((List.replicate (⟨[(⟨1, 1, false, []⟩ : Fld)] ++ [fld1, fld2, fld3].drop 1⟩ : Typ).fields.length (⟨0, []⟩ : Cel)).set 0 ({ ((List.replicate (⟨[(⟨1, 1, false, []⟩ : Fld)] ++ [fld1, fld2, fld3].drop 1⟩ : Typ).fields.length (⟨0, []⟩ : Cel)).getD 0 default) with n := (nums7.getD k 0) } : Cel)) 0 1 (nums7.getD j 0)) : Value) else undef)) ∧ Sep G61 w58 ((RowE (α := Cel) own 47 v318 ((List.replicate (⟨[(⟨1, 1, false, []⟩ : Fld)] ++ [fld1, fld2, fld3].drop 1⟩ : Typ).fields.length (⟨0, []⟩ : Cel)).set 0 ({ ((List.replicate (⟨[(⟨1, 1, false, []⟩ : Fld)] ++ [fld1, fld2, fld3].drop 1⟩ : Typ).fields.length (⟨0, []⟩ : Cel)).getD 0 default) with n := (nums7.getD k 0) } : Cel))) :: (RowE (α := Int) own 3 (.slice (some ⟨b57, 0, none⟩) 7 7) nums7) :: (Blk b35 #[v47] 31) :: (Blk b28 ((⟨[fld1, fld2, fld3]⟩ : Typ).cells (.slice (some ⟨bf2, 0, none⟩) 3 3)).toArray 31) :: (Blk bt1 #[(.slice (some ⟨bf2, 0, none⟩) 3 3)] 31) :: Rs) w1413 := hW1415
        have e1419 : vals 5 = (.bool (!decide ((nums7.getD j 0) = 0)) : Value) := hA1414 5 (by decide)
        have e1420 : vals 13 = (if (!decide ((nums7.getD j 0) = 0)) = true then (.bool (!decide ((mayL (⟨[(⟨1, 1, false, []⟩ : Fld)] ++ [fld1, fld2, fld3].drop 1⟩ : Typ) ((List.replicate (⟨[(⟨1, 1, false, []⟩ : Fld)] ++ [fld1, fld2, fld3].drop 1⟩ : Typ).fields.length (⟨0, []⟩ : Cel)).set 0 ({ ((List.replicate (⟨[(⟨1, 1, false, []⟩ : Fld)] ++ [fld1, fld2, fld3].drop 1⟩ : Typ).fields.length (⟨0, []⟩ : Cel)).getD 0 default) with n := (nums7.getD k 0) } : Cel)) 0 1 (nums7.getD j 0)) = 0)) : Value) else undef) := hA1414 13 (by decide)
        have e1421 : vals 14 = (if (!decide ((nums7.getD j 0) = 0)) = true then (.bool (((decide (0 < (nums7.getD k 0))) && (decide ((IntKind.i64.wrap (9223372036854775807 - (nums7.getD k 0))) < (nums7.getD j 0)))) || ((decide ((nums7.getD k 0) < 0)) && (decide ((nums7.getD j 0) < (IntKind.i64.wrap ((-9223372036854775808) - (nums7.getD k 0))))))) : Value) else undef) := hA1414 14 (by decide)
        refine oblc rfl rfl (show _ = (.bool (!decide ((nums7.getD j 0) = 0)) : Value) from e1419) (fun hb1422 => ?_) (fun hb1422 => fun vals' hv _ => ⟨trivial, hv.trans (if_neg hb1422).symm⟩)
        have hl1423 : (!decide ((nums7.getD j 0) = 0)) = true := hb1422
        have hl1423 := ndec_true hl1423
        exact ov_neqb (a := !decide ((mayL (⟨[(⟨1, 1, false, []⟩ : Fld)] ++ [fld1, fld2, fld3].drop 1⟩ : Typ) ((List.replicate (⟨[(⟨1, 1, false, []⟩ : Fld)] ++ [fld1, fld2, fld3].drop 1⟩ : Typ).fields.length (⟨0, []⟩ : Cel)).set 0 ({ ((List.replicate (⟨[(⟨1, 1, false, []⟩ : Fld)] ++ [fld1, fld2, fld3].drop 1⟩ : Typ).fields.length (⟨0, []⟩ : Cel)).getD 0 default) with n := (nums7.getD k 0) } : Cel)) 0 1 (nums7.getD j 0)) = 0)) (b := ((decide (0 < (nums7.getD k 0))) && (decide ((IntKind.i64.wrap (9223372036854775807 - (nums7.getD k 0))) < (nums7.getD j 0)))) || ((decide ((nums7.getD k 0) < 0)) && (decide ((nums7.getD j 0) < (IntKind.i64.wrap ((-9223372036854775808) - (nums7.getD k 0))))))) Try.underlying4 (show _ = (.bool (!decide ((mayL (⟨[(⟨1, 1, false, []⟩ : Fld)] ++ [fld1, fld2, fld3].drop 1⟩ : Typ) ((List.replicate (⟨[(⟨1, 1, false, []⟩ : Fld)] ++ [fld1, fld2, fld3].drop 1⟩ : Typ).fields.length (⟨0, []⟩ : Cel)).set 0 ({ ((List.replicate (⟨[(⟨1, 1, false, []⟩ : Fld)] ++ [fld1, fld2, fld3].drop 1⟩ : Typ).fields.length (⟨0, []⟩ : Cel)).getD 0 default) with n := (nums7.getD k 0) } : Cel)) 0 1 (nums7.getD j 0)) = 0)) : Value) from (Eq.trans e1420 (if_pos hb1422))) (show _ = (.bool (((decide (0 < (nums7.getD k 0))) && (decide ((IntKind.i64.wrap (9223372036854775807 - (nums7.getD k 0))) < (nums7.getD j 0)))) || ((decide ((nums7.getD k 0) < 0)) && (decide ((nums7.getD j 0) < (IntKind.i64.wrap ((-9223372036854775808) - (nums7.getD k 0))))))) : Value) from (Eq.trans e1421 (if_pos hb1422))) (fun vals' hv _ => ⟨rfl, hv.trans (if_pos hb1422).symm⟩)
      · intro k1424 vals w1425 h1428 h1429 hW1427 hA1426
        have e1430 : vals 5 = (.bool (!decide ((nums7.getD j 0) = 0)) : Value) := hA1426 5 (by decide)
        have e1431 : vals 15 = (if (!decide ((nums7.getD j 0) = 0)) = true then (.bool (!((!decide ((mayL (⟨[(⟨1, 1, false, []⟩ : Fld)] ++ [fld1, fld2, fld3].drop 1⟩ : Typ) ((List.replicate (⟨[(⟨1, 1, false, []⟩ : Fld)] ++ [fld1, fld2, fld3].drop 1⟩ : Typ).fields.length (⟨0, []⟩ : Cel)).set 0 ({ ((List.replicate (⟨[(⟨1, 1, false, []⟩ : Fld)] ++ [fld1, fld2, fld3].drop 1⟩ : Typ).fields.length (⟨0, []⟩ : Cel)).getD 0 default) with n := (nums7.getD k 0) } : Cel)) 0 1 (nums7.getD j 0)) = 0)) == (((decide (0 < (nums7.getD k 0))) && (decide ((IntKind.i64.wrap (9223372036854775807 - (nums7.getD k 0))) < (nums7.getD j 0)))) || ((decide ((nums7.getD k 0) < 0)) && (decide ((nums7.getD j 0) < (IntKind.i64.wrap ((-9223372036854775808) - (nums7.getD k 0))))))))) : Value) else undef) := hA1426 15 (by decide)
        refine obl rfl ?_
        exact ov_pick_and (b := !decide ((nums7.getD j 0) = 0)) (b' := !((!decide ((mayL (⟨[(⟨1, 1, false, []⟩ : Fld)] ++ [fld1, fld2, fld3].drop 1⟩ : Typ) ((List.replicate (⟨[(⟨1, 1, false, []⟩ : Fld)] ++ [fld1, fld2, fld3].drop 1⟩ : Typ).fields.length (⟨0, []⟩ : Cel)).set 0 ({ ((List.replicate (⟨[(⟨1, 1, false, []⟩ : Fld)] ++ [fld1, fld2, fld3].drop 1⟩ : Typ).fields.length (⟨0, []⟩ : Cel)).getD 0 default) with n := (nums7.getD k 0) } : Cel)) 0 1 (nums7.getD j 0)) = 0)) == (((decide (0 < (nums7.getD k 0))) && (decide ((IntKind.i64.wrap (9223372036854775807 - (nums7.getD k 0))) < (nums7.getD j 0)))) || ((decide ((nums7.getD k 0) < 0)) && (decide ((nums7.getD j 0) < (IntKind.i64.wrap ((-9223372036854775808) - (nums7.getD k 0))))))))) (show _ = (.bool (!decide ((nums7.getD j 0) = 0)) : Value) from e1430) (fun hbp => (show _ = (.bool (!((!decide ((mayL (⟨[(⟨1, 1, false, []⟩ : Fld)] ++ [fld1, fld2, fld3].drop 1⟩ : Typ) ((List.replicate (⟨[(⟨1, 1, false, []⟩ : Fld)] ++ [fld1, fld2, fld3].drop 1⟩ : Typ).fields.length (⟨0, []⟩ : Cel)).set 0 ({ ((List.replicate (⟨[(⟨1, 1, false, []⟩ : Fld)] ++ [fld1, fld2, fld3].drop 1⟩ : Typ).fields.length (⟨0, []⟩ : Cel)).getD 0 default) with n := (nums7.getD k 0) } : Cel)) 0 1 (nums7.getD j 0)) = 0)) == (((decide (0 < (nums7.getD k 0))) && (decide ((IntKind.i64.wrap (9223372036854775807 - (nums7.getD k 0))) < (nums7.getD j 0)))) || ((decide ((nums7.getD k 0) < 0)) && (decide ((nums7.getD j 0) < (IntKind.i64.wrap ((-9223372036854775808) - (nums7.getD k 0))))))))) : Value) from (Eq.trans e1431 (if_pos hbp)))) (fun vals' hv _ => ⟨rfl, hv⟩)
      intro vals w1432 hW1433 hA1434
      obtain ⟨he1242, hS1435⟩ : (vals 12 = (if (!decide ((nums7.getD j 0) = 0)) = true then (.int .i64 (mayL (⟨[(⟨1, 1, false, []⟩ : Fld)] ++ [fld1, fld2, fld3].drop 1⟩ : Typ) ((List.replicate (⟨[(⟨1, 1, false, []⟩ : Fld)] ++ [fld1, fld2, fld3].drop 1⟩ : Typ).fields.length (⟨0, []⟩ : Cel)).set 0 ({ ((List.replicate (⟨[(⟨1, 1, false, []⟩ : Fld)] ++ [fld1, fld2, fld3].drop 1⟩ : Typ).fields.length (⟨0, []⟩ : Cel)).getD 0 default) with n := (nums7.getD k 0) } : Cel)) 0 1 (nums7.getD j 0)) : Value) else undef)) ∧ Sep G61 w58 ((RowE (α := Cel) own 47 v318 ((List.replicate (⟨[(⟨1, 1, false, []⟩ : Fld)] ++ [fld1, fld2, fld3].drop 1⟩ : Typ).fields.length (⟨0, []⟩ : Cel)).set 0 ({ ((List.replicate (⟨[(⟨1, 1, false, []⟩ : Fld)] ++ [fld1, fld2, fld3].drop 1⟩ : Typ).fields.length (⟨0, []⟩ : Cel)).getD 0 default) with n := (nums7.getD k 0) } : Cel))) :: (RowE (α := Int) own 3 (.slice (some ⟨b57, 0, none⟩) 7 7) nums7) :: (Blk b35 #[v47] 31) :: (Blk b28 ((⟨[fld1, fld2, fld3]⟩ : Typ).cells (.slice (some ⟨bf2, 0, none⟩) 3 3)).toArray 31) :: (Blk bt1 #[(.slice (some ⟨bf2, 0, none⟩) 3 3)] 31) :: Rs) w1432 := hW1433
      have e1436 : vals 16 = (.bool ((!decide ((nums7.getD j 0) = 0)) && (!((!decide ((mayL (⟨[(⟨1, 1, false, []⟩ : Fld)] ++ [fld1, fld2, fld3].drop 1⟩ : Typ) ((List.replicate (⟨[(⟨1, 1, false, []⟩ : Fld)] ++ [fld1, fld2, fld3].drop 1⟩ : Typ).fields.length (⟨0, []⟩ : Cel)).set 0 ({ ((List.replicate (⟨[(⟨1, 1, false, []⟩ : Fld)] ++ [fld1, fld2, fld3].drop 1⟩ : Typ).fields.length (⟨0, []⟩ : Cel)).getD 0 default) with n := (nums7.getD k 0) } : Cel)) 0 1 (nums7.getD j 0)) = 0)) == (((decide (0 < (nums7.getD k 0))) && (decide ((IntKind.i64.wrap (9223372036854775807 - (nums7.getD k 0))) < (nums7.getD j 0)))) || ((decide ((nums7.getD k 0) < 0)) && (decide ((nums7.getD j 0) < (IntKind.i64.wrap ((-9223372036854775808) - (nums7.getD k 0)))))))))) : Value) := hA1434 16 (by decide)
      refine st_env (kv := [(1, .pointer (some ⟨b28, 0, none⟩)), (2, .pointer (some ⟨b35, 0, none⟩)), (3, (.slice (some ⟨b57, 0, none⟩) 7 7)), (4, .int .i64 ((k : Nat) : Int)), (5, .int .i64 ((j : Nat) : Int)), (29, .int .i64 ((j : Nat) : Int)), (30, (.slice (some ⟨b57, 0, none⟩) 7 7)), (31, .int .i64 ((nums7.length : Nat) : Int)), (32, .bool true), (35, .agg ((⟨[(⟨1, 1, false, []⟩ : Fld)] ++ [fld1, fld2, fld3].drop 1⟩ : Typ).cells v47).toArray), (36, v318), (6, v318), (37, v318), (38, .int .i64 (((List.replicate (⟨[(⟨1, 1, false, []⟩ : Fld)] ++ [fld1, fld2, fld3].drop 1⟩ : Typ).fields.length (⟨0, []⟩ : Cel)).length : Nat) : Int)), (39, .bool false), (40, v318), (41, (.slice (some ⟨b57, 0, none⟩) 7 7)), (42, .int .i64 ((k : Nat) : Int)), (43, .pointer (some ⟨sb (.slice (some ⟨b57, 0, none⟩) 7 7), so (.slice (some ⟨b57, 0, none⟩) 7 7) + k * 1, none⟩)), (44, .int .i64 ((nums7.getD k 0))), (45, .pointer (some ⟨sb v318, so v318 + 0 * 2, none⟩)), (46, .pointer (some ⟨sb v318, so v318 + 0 * 2, none⟩)), (7, .bool (((decide (0 < (nums7.getD k 0))) && (decide ((IntKind.i64.wrap (9223372036854775807 - (nums7.getD k 0))) < (nums7.getD j 0)))) || ((decide ((nums7.getD k 0) < 0)) && (decide ((nums7.getD j 0) < (IntKind.i64.wrap ((-9223372036854775808) - (nums7.getD k 0)))))))), (99, .bool ((!decide ((nums7.getD j 0) = 0)) && (!((!decide ((mayL (⟨[(⟨1, 1, false, []⟩ : Fld)] ++ [fld1, fld2, fld3].drop 1⟩ : Typ) ((List.replicate (⟨[(⟨1, 1, false, []⟩ : Fld)] ++ [fld1, fld2, fld3].drop 1⟩ : Typ).fields.length (⟨0, []⟩ : Cel)).set 0 ({ ((List.replicate (⟨[(⟨1, 1, false, []⟩ : Fld)] ++ [fld1, fld2, fld3].drop 1⟩ : Typ).fields.length (⟨0, []⟩ : Cel)).getD 0 default) with n := (nums7.getD k 0) } : Cel)) 0 1 (nums7.getD j 0)) = 0)) == (((decide (0 < (nums7.getD k 0))) && (decide ((IntKind.i64.wrap (9223372036854775807 - (nums7.getD k 0))) < (nums7.getD j 0)))) || ((decide ((nums7.getD k 0) < 0)) && (decide ((nums7.getD j 0) < (IntKind.i64.wrap ((-9223372036854775808) - (nums7.getD k 0)))))))))))]) ⟨rfl, rfl, rfl, rfl, rfl, rfl, rfl, rfl, rfl, rfl, rfl, rfl, rfl, rfl, rfl, rfl, rfl, rfl, rfl, rfl, rfl, rfl, rfl, (by exact e1436), trivial⟩ (fun ρw1432 => ?_)
      refine st_nil ?_
      cases hc1437 : (!decide ((nums7.getD j 0) = 0)) && (!((!decide ((mayL (⟨[(⟨1, 1, false, []⟩ : Fld)] ++ [fld1, fld2, fld3].drop 1⟩ : Typ) ((List.replicate (⟨[(⟨1, 1, false, []⟩ : Fld)] ++ [fld1, fld2, fld3].drop 1⟩ : Typ).fields.length (⟨0, []⟩ : Cel)).set 0 ({ ((List.replicate (⟨[(⟨1, 1, false, []⟩ : Fld)] ++ [fld1, fld2, fld3].drop 1⟩ : Typ).fields.length (⟨0, []⟩ : Cel)).getD 0 default) with n := (nums7.getD k 0) } : Cel)) 0 1 (nums7.getD j 0)) = 0)) == (((decide (0 < (nums7.getD k 0))) && (decide ((IntKind.i64.wrap (9223372036854775807 - (nums7.getD k 0))) < (nums7.getD j 0)))) || ((decide ((nums7.getD k 0) < 0)) && (decide ((nums7.getD j 0) < (IntKind.i64.wrap ((-9223372036854775808) - (nums7.getD k 0)))))))))
      · skip
        try simp only [bools] at hc1437
        refine WP_cond_f rfl ?_
        refine WP_skip ?_
        refine WP_region0 (by kernel_rfl) (fun _ => ?_)
        refine st (ov_move (v := .int .i64 ((j : Nat) : Int)) rfl ?_)
        have hr1438 : InR ((j + 1 : Nat) : Int) := by first | omega | (simp only [lens]; omega)
        refine st (ov_add (r := ((j + 1 : Nat) : Int)) (k := .i64) (a := ((j : Nat) : Int)) (b := 1) rfl rfl (by rw [show (((j : Nat) : Int) + 1 : Int) = ((j + 1 : Nat) : Int) by first | omega | (simp only [lens]; omega)]; exact wrap_in hr1438) ?_)
        refine st (ov_assign (v := .int .i64 ((j + 1 : Nat) : Int)) rfl ?_)
        refine st_nil ?_
        have hS1439 : Sep G61 w58 ((RowE (α := Int) own 3 (.slice (some ⟨b57, 0, none⟩) 7 7) nums7) :: (Blk b35 #[v47] 31) :: (Blk b28 ((⟨[fld1, fld2, fld3]⟩ : Typ).cells (.slice (some ⟨bf2, 0, none⟩) 3 3)).toArray 31) :: (Blk bt1 #[(.slice (some ⟨bf2, 0, none⟩) 3 3)] 31) :: Rs) w1432 := hS1435.sel 5 [1, 2, 3, 4] (Nat.le_add_left _ _) rfl rfl
        exact ⟨_, by omega, j + 1, _, rfl, setAll_self ⟨rfl, rfl, rfl, rfl, rfl, trivial⟩, by omega, hS1439⟩
      · skip
        try simp only [bools] at hc1437
        exact absurd hc1437 (ck_key k j (by omega) (by omega))

end Go.Proofs.Ytlblilbmpdejgaa
