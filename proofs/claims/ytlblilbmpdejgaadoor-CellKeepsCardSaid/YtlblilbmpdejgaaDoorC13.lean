/- Steps of the proofs of this seat: part C13. -/
import Derived.Test.YtlblilbmpdejgaaDoorC12
set_option linter.unusedSimpArgs false
set_option linter.unusedVariables false
set_option maxRecDepth 8000
namespace Go.Proofs.YtlblilbmpdejgaaDoor
open Go.Proofs Go.RowKit

theorem D_refDo {G : Nat → Prop} {W w : World} {Rs : List HP} {t : Typ} {dt0 : Value} (hdt0 : RdS W G dt0 t.fields) (ot : t.Ok) {vc : Value} {c : List Cel} (hc : RdS W G vc c) {f : Nat}  {arg : Int} (harg : InR arg) (hS0 : Sep G W Rs w) (hf : f < c.length) (hasc : Asc (c.getD f default).set) (hfew : (c.getD f default).set.length ≤ 1000) : Ret Tryd.prog 50 [.agg (t.cells dt0).toArray, vc, .int .i64 ((f : Nat) : Int), .int .i64 (3 : Int), .int .i64 (arg)] w (fun r w' => ∃ (v : Value) (sh : List CelS), r = (v : Value) ∧ (f < sh.length) ∧ Sep G W ((RowE (α := CelS) own 42 v sh) :: (RowE (α := Int) own 3 ((sh.getD f default).v) (insS (c.getD f default).set arg)) :: Rs) w') := by
 have hdt0s : t.fields.length * 48 ≤ 140737488355328 := hdt0.small
 have hcs : c.length * 32 ≤ 140737488355328 := hc.small
 refine Calls_of_WP (args := [.agg (t.cells dt0).toArray, vc, .int .i64 ((f : Nat) : Int), .int .i64 (3 : Int), .int .i64 (arg)]) Tryd.func50 rfl rfl ?_
 refine WP_seq ?_
 refine WP_region0 (by kernel_rfl) (fun _ => ?_)
 refine st (ov_box (v := .agg (t.cells dt0).toArray) rfl ?_)
 intro w3 b2 hn1
 have hS4 : Sep G W ((Blk b2 (t.cells dt0).toArray 33) :: Rs) w3 := hS0.new hn1
 refine st (ov_assign (v := (.slice none 0 0)) rfl ?_)
 refine st_nil ?_
 refine WP_seq ?_
 refine WP_region0 (by kernel_rfl) (fun _ => ?_)
 refine st (ov_move (v := vc) rfl ?_)
 refine st (ov_call (f := 74) (vals := [vc]) (cap := []) (show _ = (.func (.func 74) #[] #[] : Value) from rfl) rfl Tryd.call74 (D_Copy (c := c) (vc := vc) hc hS4) ?_)
 rintro v5 w6 ⟨_, rfl, hS7⟩
 refine st (ov_assign (v := v5) rfl ?_)
 refine st_nil ?_
 refine WP_seq ?_
 refine WP_region0 (by kernel_rfl) (fun _ => ?_)
 obtain ⟨sh8, hsh9, hS10⟩ := CelW.open hS7
 have hsh9l := hsh9.1
 have hS10t : Sep G W ((RowE (α := CelS) own 42 v5 sh8) :: (Star (SetRows 3 sh8 c)) :: (Blk b2 (t.cells dt0).toArray 33) :: Rs) w6 := hS10
 have hr11 := hS10t.row (i := 0) rfl
 have hr11s : sh8.length * 32 ≤ 140737488355328 := hr11.2
 have hS12 : Sep G W ((Star (SetRows 3 sh8 c)) :: (RowE (α := CelS) own 42 v5 sh8) :: (Blk b2 (t.cells dt0).toArray 33) :: Rs) w6 := hS10t.sel 3 [1, 0, 2] (Nat.le_add_left _ _) rfl rfl
 have hS13 : Sep G W ((RowE (α := Int) own 3 ((sh8.getD f default).v) ((c.getD f default).set)) :: (Star ((SetRows 3 sh8 c).set f Emp)) :: (RowE (α := CelS) own 42 v5 sh8) :: (Blk b2 (t.cells dt0).toArray 33) :: Rs) w6 := Sep.takeStar hS12 (SetRows.get (i := f) (by omega) (by omega))
 have hr14 := hS13.row (i := 0) rfl
 have hr14s : ((c.getD f default).set).length * 8 ≤ 140737488355328 := hr14.2
 refine st (ov_move (v := v5) rfl ?_)
 refine st (ov_move (v := .int .i64 ((f : Nat) : Int)) rfl ?_)
 have hi15 : f < sh8.length := (by first | omega | (simp only [lens]; omega))
 refine st (ov_indexAddrN (k := 2) (i := f) Tryd.underlying26 Tryd.sizeOf42 rfl hr11.1 rfl hi15 ?_)
 have hi17 : f < sh8.length := (by first | omega | (simp only [lens]; omega))
 obtain ⟨_, _, hce16, rfl, hoke16⟩ := hS13.rowAt (i := 2) (j := f) rfl hi17
 rw [← getD_at default hi17] at hce16 hoke16
 refine st (ov_loadk (k := 2) Tryd.isAgg42 Tryd.sizeOf42 rfl rfl hce16 ?_)
 refine st (ov_alloc Tryd.zeroValue42 ?_)
 intro w20 b19 hn18
 have hS21 : Sep G W ((Blk b19 #[.int .i64 (0), (.slice none 0 0)] 42) :: (RowE (α := Int) own 3 ((sh8.getD f default).v) ((c.getD f default).set)) :: (Star ((SetRows 3 sh8 c).set f Emp)) :: (RowE (α := CelS) own 42 v5 sh8) :: (Blk b2 (t.cells dt0).toArray 33) :: Rs) w20 := hS13.new hn18
 refine stn (ov_store (v := .agg ((sh8.getD f default).cells).toArray) (c' := ((sh8.getD f default).cells).toArray) Tryd.sizeOf42 rfl rfl (hS21.blk (i := 0) rfl) (all1 ⟨rfl, hr14.1.one, trivial⟩) (Nat.le_of_ble_eq_true rfl) rfl ?_)
 intro w22 hp23
 have hS24 : Sep G W ((Blk b19 ((sh8.getD f default).cells).toArray 42) :: (RowE (α := Int) own 3 ((sh8.getD f default).v) ((c.getD f default).set)) :: (Star ((SetRows 3 sh8 c).set f Emp)) :: (RowE (α := CelS) own 42 v5 sh8) :: (Blk b2 (t.cells dt0).toArray 33) :: Rs) w22 := hS21.put (i := 0) rfl hp23
 refine st_nil ?_
 refine WP_seq ?_
 refine WP_seq ?_
 refine WP_region0 (by kernel_rfl) (fun _ => ?_)
 refine st (ov_move (v := .int .i64 (3 : Int)) rfl ?_)
 refine st_nil ?_
 refine WP_block ?_
 refine WP_seq ?_
 refine WP_region0 (by kernel_rfl) (fun _ => ?_)
 refine st (ov_eql (k := .i64) (a := (3 : Int)) (b := 1) rfl rfl ?_)
 have hkn25 : (decide ((3 : Int) = 1)) = false := decide_eq_false (by decide)
 rw [hkn25]
 refine st (ov_assign (v := .bool false) rfl ?_)
 refine st_nil ?_
 refine WP_cond_f rfl ?_
 refine WP_seq ?_
 refine WP_region0 (by kernel_rfl) (fun _ => ?_)
 refine st (ov_eql (k := .i64) (a := (3 : Int)) (b := 2) rfl rfl ?_)
 have hkn26 : (decide ((3 : Int) = 2)) = false := decide_eq_false (by decide)
 rw [hkn26]
 refine st (ov_assign (v := .bool false) rfl ?_)
 refine st_nil ?_
 refine WP_cond_f rfl ?_
 refine WP_seq ?_
 refine WP_region0 (by kernel_rfl) (fun _ => ?_)
 refine st (ov_eql (k := .i64) (a := (3 : Int)) (b := 3) rfl rfl ?_)
 have hkn27 : (decide ((3 : Int) = 3)) = true := decide_eq_true rfl
 rw [hkn27]
 refine st (ov_assign (v := .bool true) rfl ?_)
 refine st_nil ?_
 refine WP_cond_t rfl ?_
 refine WP_region0 (by kernel_rfl) (fun _ => ?_)
 refine st (fd42_1 rfl ?_)
 refine st (ov_load1 (v := (sh8.getD f default).v) Tryd.isAgg40 rfl (blk_cellL (hS24.blk (i := 0) rfl) rfl) ?_)
 refine st (ov_move (v := .int .i64 (arg)) rfl ?_)
 have hS28 : Sep G W ((RowE (α := Int) own 3 ((sh8.getD f default).v) ((c.getD f default).set)) :: (Blk b19 ((sh8.getD f default).cells).toArray 42) :: (Star ((SetRows 3 sh8 c).set f Emp)) :: (RowE (α := CelS) own 42 v5 sh8) :: (Blk b2 (t.cells dt0).toArray 33) :: Rs) w22 := hS24.sel 5 [1, 0, 2, 3, 4] (Nat.le_add_left _ _) rfl rfl
 obtain ⟨G29, hA31, hB32, hS33, hk34⟩ := hS28.lend
 have hrd35 := RowE.rd hA31
 have hrd35s : ((c.getD f default).set).length * 8 ≤ 140737488355328 := hrd35.small
 refine st (ov_call (f := 75) (vals := [(sh8.getD f default).v, .int .i64 (arg)]) (cap := []) (show _ = (.func (.func 75) #[] #[] : Value) from rfl) rfl Tryd.call75 (D_with (l := (c.getD f default).set) (vl := (sh8.getD f default).v) (n := arg) hrd35 harg hS33 (hasc) (hfew)) ?_)
 rintro v36 w37 ⟨_, rfl, hS38⟩
 have hr39 := hS38.row (i := 0) rfl
 have hr39s : (insS ((c.getD f default).set) arg).length * 8 ≤ 140737488355328 := hr39.2
 have hS40 : Sep G W ((RowE (α := Int) own 3 ((sh8.getD f default).v) ((c.getD f default).set)) :: (RowE (α := Int) own 3 v36 (insS ((c.getD f default).set) arg)) :: (Blk b19 ((sh8.getD f default).cells).toArray 42) :: (Star ((SetRows 3 sh8 c).set f Emp)) :: (RowE (α := CelS) own 42 v5 sh8) :: (Blk b2 (t.cells dt0).toArray 33) :: Rs) w37 := hk34 _ _ hS38
 refine st (fd42_1 rfl ?_)
 refine stn (ov_store1 (v := v36) (c := [.int .i64 ((sh8.getD f default).n), (sh8.getD f default).v]) (c' := [.int .i64 ((sh8.getD f default).n), v36]) Tryd.sizeOf40 rfl rfl (hS40.blk (i := 2) rfl) hr39.1.one rfl rfl ?_)
 intro w41 hp42
 have hS43 : Sep G W ((RowE (α := Int) own 3 ((sh8.getD f default).v) ((c.getD f default).set)) :: (RowE (α := Int) own 3 v36 (insS ((c.getD f default).set) arg)) :: (Blk b19 #[.int .i64 ((sh8.getD f default).n), v36] 42) :: (Star ((SetRows 3 sh8 c).set f Emp)) :: (RowE (α := CelS) own 42 v5 sh8) :: (Blk b2 (t.cells dt0).toArray 33) :: Rs) w41 := hS40.put (i := 2) rfl hp42
 refine st_nil ?_
 refine WP_seq ?_
 refine WP_region0 (by kernel_rfl) (fun _ => ?_)
 refine st (ov_move (v := v5) rfl ?_)
 refine st (ov_move (v := .int .i64 ((f : Nat) : Int)) rfl ?_)
 refine st (ov_loadk (k := 2) Tryd.isAgg42 Tryd.sizeOf42 rfl rfl (CellsAt.all (hS43.blk (i := 2) rfl)) ?_)
 have hi44 : f < sh8.length := (by first | omega | (simp only [lens]; omega))
 refine st (ov_indexAddrN (k := 2) (i := f) Tryd.underlying26 Tryd.sizeOf42 rfl hr11.1 rfl hi44 ?_)
 have hS46 : Sep G W ((RowE (α := CelS) own 42 v5 sh8) :: (RowE (α := Int) own 3 ((sh8.getD f default).v) ((c.getD f default).set)) :: (RowE (α := Int) own 3 v36 (insS ((c.getD f default).set) arg)) :: (Blk b19 #[.int .i64 ((sh8.getD f default).n), v36] 42) :: (Star ((SetRows 3 sh8 c).set f Emp)) :: (Blk b2 (t.cells dt0).toArray 33) :: Rs) w41 := hS43.sel 6 [4, 0, 1, 2, 3, 5] (Nat.le_add_left _ _) rfl rfl
 have hS47 : Sep G W ((RowE (α := CelS) own 42 v5 sh8) :: Emp :: (RowE (α := Int) own 3 ((sh8.getD f default).v) ((c.getD f default).set)) :: (RowE (α := Int) own 3 v36 (insS ((c.getD f default).set) arg)) :: (Blk b19 #[.int .i64 ((sh8.getD f default).n), v36] 42) :: (Star ((SetRows 3 sh8 c).set f Emp)) :: (Blk b2 (t.cells dt0).toArray 33) :: Rs) w41 := hS46.emp1
 refine stn (ov_storeS (α := CelS) (j := f) (o := 0) (u := .agg #[.int .i64 ((sh8.getD f default).n), v36]) (us := [.int .i64 ((sh8.getD f default).n), v36]) (x1 := (⟨(sh8.getD f default).n, v36⟩ : CelS)) hS47 Tryd.sizeOf42 (by first | omega | (simp only [lens]; omega)) rfl rfl rfl (Nat.le_of_ble_eq_true rfl) (all1 ⟨rfl, hr39.1.one, trivial⟩) (fun _ _ _ hel _ => (by rw [← getD_at default (by omega)] at hel; obtain ⟨rfl, hok⟩ := hel; exact ⟨rfl, ⟨hoke16.n, hr39.1.one⟩⟩)) ?_)
 intro w45 hS48
 have hr49 := hS48.row (i := 0) rfl
 have hr49s : (sh8.set f (⟨(sh8.getD f default).n, v36⟩ : CelS)).length * 32 ≤ 140737488355328 := hr49.2
 refine st_nil ?_
 refine WP_seq ?_
 refine WP_region0 (by kernel_rfl) (fun _ => ?_)
 refine st (ov_move (v := v5) rfl ?_)
 refine st (ov_assign (v := v5) rfl ?_)
 refine st_nil ?_
 refine WP_ret ?_
 refine fin1 Tryd.results50 (show _ = (v5 : Value) from rfl) ?_
 have hS50 : Sep G W ((RowE (α := Int) own 3 v36 (insS ((c.getD f default).set) arg)) :: (RowE (α := CelS) own 42 v5 (sh8.set f (⟨(sh8.getD f default).n, v36⟩ : CelS))) :: (RowE (α := Int) own 3 ((sh8.getD f default).v) ((c.getD f default).set)) :: (Blk b19 #[.int .i64 ((sh8.getD f default).n), v36] 42) :: (Star ((SetRows 3 sh8 c).set f Emp)) :: (Blk b2 (t.cells dt0).toArray 33) :: Rs) w45 := hS48.sel 6 [2, 0, 1, 3, 4, 5] (Nat.le_add_left _ _) rfl rfl
 have hS51 : Sep G W ((RowE (α := Int) own 3 (((sh8.set f (⟨(sh8.getD f default).n, v36⟩ : CelS)).getD f default).v) (insS ((c.getD f default).set) arg)) :: (RowE (α := CelS) own 42 v5 (sh8.set f (⟨(sh8.getD f default).n, v36⟩ : CelS))) :: (RowE (α := Int) own 3 ((sh8.getD f default).v) ((c.getD f default).set)) :: (Blk b19 #[.int .i64 ((sh8.getD f default).n), v36] 42) :: (Star ((SetRows 3 sh8 c).set f Emp)) :: (Blk b2 (t.cells dt0).toArray 33) :: Rs) w45 := by rw [getD_set_self (by omega)]; exact hS50
 have hS52 : Sep G W ((RowE (α := CelS) own 42 v5 (sh8.set f (⟨(sh8.getD f default).n, v36⟩ : CelS))) :: (RowE (α := Int) own 3 (((sh8.set f (⟨(sh8.getD f default).n, v36⟩ : CelS)).getD f default).v) (insS ((c.getD f default).set) arg)) :: Rs) w45 := hS51.sel 6 [1, 0] (Nat.le_add_left _ _) rfl rfl
 refine ⟨v5, (sh8.set f (⟨(sh8.getD f default).n, v36⟩ : CelS)), rfl, ?_, hS52⟩
 rw [List.length_set]; omega

end Go.Proofs.YtlblilbmpdejgaaDoor
