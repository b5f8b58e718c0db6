/- Steps of the proofs of this seat: part C18. -/
import Derived.Test.YtlblilbmpdejgaaDoorC17
set_option linter.unusedSimpArgs false
set_option linter.unusedVariables false
set_option maxRecDepth 8000
set_option maxHeartbeats 4000000
namespace Go.Proofs.YtlblilbmpdejgaaDoor
open Go.Proofs Go.RowKit

theorem ov_field {P : Program} {d : Option Tmp} {ty : TypeId} {pos : String} {af : Array Edge} {g : Option (Nat × Bool)} {σ : Env} {w : World} {K : Value → World → Prop} {x : Operand} {t : TypeId} {f : Nat} {v u : Value} (hx : ev σ x = v) (hr : ∀ w, (Instr.field t v f).run P w = .ok u w) (h : K u w) : opV P ⟨d, .field t x f, ty, pos, af, g⟩ σ w K :=
  ov_run (v := u) (w' := w) (by simp [execOp, hx, hr, go_sem]) h
set_option maxHeartbeats 4000000 in
set_option maxRecDepth 20000 in
theorem D_known {G : Nat → Prop} {W w : World} {Rs : List HP}  (hS0 : Sep G W Rs w) : Ret Tryd.prog 12 [] w (fun r w' => r = (.bool true : Value) ∧ Sep G W Rs w') := by
 refine Calls_of_WP (args := []) Tryd.func12 rfl rfl ?_
 refine WP_seq ?_
 refine WP_region0 (by kernel_rfl) (fun _ => ?_)
 refine st (ov_assign (v := .bool false) rfl ?_)
 refine st_nil ?_
 refine WP_seq ?_
 refine WP_region0 (by kernel_rfl) (fun _ => ?_)
 refine st (ov_call (f := 47) (vals := []) (cap := []) (show _ = (.func (.func 47) #[] #[] : Value) from rfl) rfl Tryd.call47 (D_three  hS0) ?_)
 rintro _ w4 ⟨bt1, bf2, bm3, rfl, hS5⟩
 have hS6 : Sep G W ((Blk bm3 #[.int .i64 (0), .int .i64 (1), .int .i64 (0), .int .i64 (2), .int .i64 (1), .int .i64 (0), .int .i64 ((-1)), .int .i64 (0)] 115) :: (Blk bt1 #[(.slice (some ⟨bf2, 0, none⟩) 3 3)] 33) :: (Blk bf2 #[.int .i64 (1), .int .i64 (1), .bool true, .slice none 0 0, .int .i64 (3), .int .i64 (1), .bool false, .slice none 0 0, .int .i64 (4), .int .i64 (1), .bool false, (.slice (some ⟨bm3, 0, none⟩) 2 2)] 79) :: Rs) w4 := hS5.sel 3 [2, 0, 1] (Nat.le_add_left _ _) rfl rfl
 have hS7 : Sep G W ((RowE (α := Mv) own 115 (.slice (some ⟨bm3, 0, none⟩) 2 2) [(⟨0, 1, 0, 2⟩ : Mv), (⟨1, 0, -1, 0⟩ : Mv)]) :: (Blk bt1 #[(.slice (some ⟨bf2, 0, none⟩) 3 3)] 33) :: (Blk bf2 #[.int .i64 (1), .int .i64 (1), .bool true, .slice none 0 0, .int .i64 (3), .int .i64 (1), .bool false, .slice none 0 0, .int .i64 (4), .int .i64 (1), .bool false, (.slice (some ⟨bm3, 0, none⟩) 2 2)] 79) :: Rs) w4 := Sep.blkRow (src := own) (l := [(⟨0, 1, 0, 2⟩ : Mv), (⟨1, 0, -1, 0⟩ : Mv)]) (css := [(⟨0, 1, 0, 2⟩ : Mv).cells, (⟨1, 0, -1, 0⟩ : Mv).cells]) hS6 rfl ⟨fun _ _ => ⟨rfl, (show Mv.Ok (⟨0, 1, 0, 2⟩ : Mv) from ⟨by decide, by decide, by decide, by decide⟩)⟩, fun _ _ => ⟨rfl, (show Mv.Ok (⟨1, 0, -1, 0⟩ : Mv) from ⟨by decide, by decide, by decide, by decide⟩)⟩, trivial⟩ (by first | decide | (simp only [List.length_cons, List.length_nil]; decide))
 have hr8 := hS7.row (i := 0) rfl
 have hr8s : [(⟨0, 1, 0, 2⟩ : Mv), (⟨1, 0, -1, 0⟩ : Mv)].length * 32 ≤ 140737488355328 := hr8.2
 obtain ⟨G9, hA11, hB12, hS13, hk14⟩ := hS7.lend
 have hrd15 := RowE.rd hA11
 have hrd15s : [(⟨0, 1, 0, 2⟩ : Mv), (⟨1, 0, -1, 0⟩ : Mv)].length * 32 ≤ 140737488355328 := hrd15.small
 have hS16 : Sep G9 w4 ((Blk bf2 #[.int .i64 (1), .int .i64 (1), .bool true, .slice none 0 0, .int .i64 (3), .int .i64 (1), .bool false, .slice none 0 0, .int .i64 (4), .int .i64 (1), .bool false, (.slice (some ⟨bm3, 0, none⟩) 2 2)] 79) :: (Blk bt1 #[(.slice (some ⟨bf2, 0, none⟩) 3 3)] 33) :: Rs) w4 := hS13.sel 2 [1, 0] (Nat.le_add_left _ _) rfl rfl
 have hS17 : Sep G9 w4 ((RowE (α := Fld) (shr G9 w4) 79 (.slice (some ⟨bf2, 0, none⟩) 3 3) [fld1, fld2, fld3]) :: (Blk bt1 #[(.slice (some ⟨bf2, 0, none⟩) 3 3)] 33) :: Rs) w4 := Sep.blkRow (src := (shr G9 w4)) (l := [fld1, fld2, fld3]) (css := [fld1.cells (.slice none 0 0), fld2.cells (.slice none 0 0), fld3.cells (.slice (some ⟨bm3, 0, none⟩) 2 2)]) hS16 rfl ⟨fun _ _ => ⟨_, rfl, (RdS.nil _ _), fld1_ok⟩, fun _ _ => ⟨_, rfl, (RdS.nil _ _), fld2_ok⟩, fun _ _ => ⟨_, rfl, hrd15, fld3_ok⟩, trivial⟩ (by first | decide | (simp only [List.length_cons, List.length_nil]; decide))
 have hr18 := hS17.row (i := 0) rfl
 have hr18s : [fld1, fld2, fld3].length * 48 ≤ 140737488355328 := hr18.2
 obtain ⟨G19, hA21, hB22, hS23, hk24⟩ := hS17.lend
 have hrd25 := RowE.rdB hA21 hB22
 have hrd25s : [fld1, fld2, fld3].length * 48 ≤ 140737488355328 := hrd25.small
 refine st (ov_field (u := (.slice (some ⟨bt1, 0, none⟩) 1 1)) rfl (fun _ => by kernel_rfl) ?_)
 refine st (ov_indexAddrN (k := 1) (i := 0) Tryd.underlying22 Tryd.sizeOf33 rfl (⟨_, 1, rfl, Nat.le_refl _, fun _ => ⟨_, _, rfl⟩⟩ : IsSl _ 1) rfl (by decide) ?_)
 have ok26 : Typ.Ok (⟨[fld1, fld2, fld3]⟩ : Typ) := ⟨⟩
 refine st (ov_loadk (k := 1) Tryd.isAgg33 Tryd.sizeOf33 rfl rfl (CellsAt.all (hS23.blk (i := 0) rfl)) ?_)
 refine st (ov_alloc Tryd.zeroValue33 ?_)
 intro w29 b28 hn27
 have hS30 : Sep G19 w4 ((Blk b28 #[(.slice none 0 0)] 33) :: (Blk bt1 #[(.slice (some ⟨bf2, 0, none⟩) 3 3)] 33) :: Rs) w29 := hS23.new hn27
 refine stn (ov_store (v := .agg ((⟨[fld1, fld2, fld3]⟩ : Typ).cells (.slice (some ⟨bf2, 0, none⟩) 3 3)).toArray) (c' := ((⟨[fld1, fld2, fld3]⟩ : Typ).cells (.slice (some ⟨bf2, 0, none⟩) 3 3)).toArray) Tryd.sizeOf33 rfl rfl (hS30.blk (i := 0) rfl) (all1 ⟨rfl, trivial⟩) (Nat.le_of_ble_eq_true rfl) rfl ?_)
 intro w31 hp32
 have hS33 : Sep G19 w4 ((Blk b28 ((⟨[fld1, fld2, fld3]⟩ : Typ).cells (.slice (some ⟨bf2, 0, none⟩) 3 3)).toArray 33) :: (Blk bt1 #[(.slice (some ⟨bf2, 0, none⟩) 3 3)] 33) :: Rs) w31 := hS30.put (i := 0) rfl hp32
 refine st_nil ?_
 refine WP_seq ?_
 refine WP_region0 (by kernel_rfl) (fun _ => ?_)
 refine st (ov_loadk (k := 1) Tryd.isAgg33 Tryd.sizeOf33 rfl rfl (CellsAt.all (hS33.blk (i := 0) rfl)) ?_)
 refine st (ov_call (f := 48) (vals := [.agg ((⟨[fld1, fld2, fld3]⟩ : Typ).cells (.slice (some ⟨bf2, 0, none⟩) 3 3)).toArray]) (cap := []) (show _ = (.func (.func 48) #[] #[] : Value) from rfl) rfl Tryd.call48 (D_New (t := (⟨[fld1, fld2, fld3]⟩ : Typ)) hrd25 ok26 hS33) ?_)
 rintro v34 w35 ⟨_, rfl, hS36⟩
 have hr37 := hS36.row (i := 0) rfl
 have hr37s : (List.replicate (⟨[fld1, fld2, fld3]⟩ : Typ).fields.length (⟨0, []⟩ : Cel)).length * 32 ≤ 140737488355328 := hr37.2
 refine st (ov_assign (v := v34) rfl ?_)
 refine st_nil ?_
 refine WP_seq ?_
 refine WP_seq ?_
 refine WP_region (by kernel_rfl) ?_
 refine st (ov_move (v := v34) rfl ?_)
 refine st (ov_len (n := (List.replicate (⟨[fld1, fld2, fld3]⟩ : Typ).fields.length (⟨0, []⟩ : Cel)).length) Tryd.underlying26 rfl hr37.1 ?_)
 refine st (ov_neq (k := .i64) (a := (((List.replicate (⟨[fld1, fld2, fld3]⟩ : Typ).fields.length (⟨0, []⟩ : Cel)).length : Nat) : Int)) (b := 3) rfl rfl ?_)
 have hkn38 : (!decide ((((List.replicate (⟨[fld1, fld2, fld3]⟩ : Typ).fields.length (⟨0, []⟩ : Cel)).length : Nat) : Int) = 3)) = false := (by decide +kernel)
 rw [hkn38]
 refine st (ov_move (v := .bool false) rfl ?_)
 refine sty rfl rfl (ov_loadk (k := 1) Tryd.isAgg33 Tryd.sizeOf33 rfl rfl (CellsAt.all (hS36.blk (i := 1) rfl)) ?_)
 refine sty rfl rfl (ov_move (v := v34) rfl ?_)
 obtain ⟨G39, hA41, hB42, hS43, hk44⟩ := hS36.lend
 have hrd45 := RowE.rd hA41
 have hrd45s : (List.replicate (⟨[fld1, fld2, fld3]⟩ : Typ).fields.length (⟨0, []⟩ : Cel)).length * 32 ≤ 140737488355328 := hrd45.small
 refine sty rfl rfl (ov_call (f := 16) (vals := [.agg ((⟨[fld1, fld2, fld3]⟩ : Typ).cells (.slice (some ⟨bf2, 0, none⟩) 3 3)).toArray, v34, .int .i64 (0), .int .i64 (1), .int .i64 (-1)]) (cap := []) (show _ = (.func (.func 16) #[] #[] : Value) from rfl) rfl Tryd.call16 (D_May (t := (⟨[fld1, fld2, fld3]⟩ : Typ)) (c := (List.replicate (⟨[fld1, fld2, fld3]⟩ : Typ).fields.length (⟨0, []⟩ : Cel))) (vc := v34) (f := 0) (op := 1) (arg := -1) (RdS.base hrd25 hB42) ok26 hrd45 (by decide) (by decide) (by decide) hS43 ((by decide +kernel))) ?_)
 rintro _ w46 ⟨rfl, hS47⟩
 have hS48 : Sep G19 w4 ((RowE (α := Cel) own 42 v34 (List.replicate (⟨[fld1, fld2, fld3]⟩ : Typ).fields.length (⟨0, []⟩ : Cel))) :: (Blk b28 ((⟨[fld1, fld2, fld3]⟩ : Typ).cells (.slice (some ⟨bf2, 0, none⟩) 3 3)).toArray 33) :: (Blk bt1 #[(.slice (some ⟨bf2, 0, none⟩) 3 3)] 33) :: Rs) w46 := hk44 _ _ hS47
 refine sty rfl rfl (ov_neq (k := .i64) (a := mayL (⟨[fld1, fld2, fld3]⟩ : Typ) (List.replicate (⟨[fld1, fld2, fld3]⟩ : Typ).fields.length (⟨0, []⟩ : Cel)) 0 1 (-1)) (b := 10) rfl rfl ?_)
 have hkn49 : (!decide ((mayL (⟨[fld1, fld2, fld3]⟩ : Typ) (List.replicate (⟨[fld1, fld2, fld3]⟩ : Typ).fields.length (⟨0, []⟩ : Cel)) 0 1 (-1)) = 10)) = false := (by decide +kernel)
 rw [hkn49]
 refine st (ov_pick_f (v := .bool false) rfl rfl ?_)
 refine st (ov_move (v := .bool false) rfl ?_)
 refine sty rfl rfl (ov_loadk (k := 1) Tryd.isAgg33 Tryd.sizeOf33 rfl rfl (CellsAt.all (hS48.blk (i := 1) rfl)) ?_)
 refine sty rfl rfl (ov_move (v := v34) rfl ?_)
 obtain ⟨G50, hA52, hB53, hS54, hk55⟩ := hS48.lend
 have hrd56 := RowE.rd hA52
 have hrd56s : (List.replicate (⟨[fld1, fld2, fld3]⟩ : Typ).fields.length (⟨0, []⟩ : Cel)).length * 32 ≤ 140737488355328 := hrd56.small
 refine sty rfl rfl (ov_call (f := 16) (vals := [.agg ((⟨[fld1, fld2, fld3]⟩ : Typ).cells (.slice (some ⟨bf2, 0, none⟩) 3 3)).toArray, v34, .int .i64 (2), .int .i64 (5), .int .i64 (0)]) (cap := []) (show _ = (.func (.func 16) #[] #[] : Value) from rfl) rfl Tryd.call16 (D_May (t := (⟨[fld1, fld2, fld3]⟩ : Typ)) (c := (List.replicate (⟨[fld1, fld2, fld3]⟩ : Typ).fields.length (⟨0, []⟩ : Cel))) (vc := v34) (f := 2) (op := 5) (arg := 0) (RdS.base hrd25 hB53) ok26 hrd56 (by decide) (by decide) (by decide) hS54 ((by decide +kernel))) ?_)
 rintro _ w57 ⟨rfl, hS58⟩
 have hS59 : Sep G19 w4 ((RowE (α := Cel) own 42 v34 (List.replicate (⟨[fld1, fld2, fld3]⟩ : Typ).fields.length (⟨0, []⟩ : Cel))) :: (Blk b28 ((⟨[fld1, fld2, fld3]⟩ : Typ).cells (.slice (some ⟨bf2, 0, none⟩) 3 3)).toArray 33) :: (Blk bt1 #[(.slice (some ⟨bf2, 0, none⟩) 3 3)] 33) :: Rs) w57 := hk55 _ _ hS58
 refine sty rfl rfl (ov_neq (k := .i64) (a := mayL (⟨[fld1, fld2, fld3]⟩ : Typ) (List.replicate (⟨[fld1, fld2, fld3]⟩ : Typ).fields.length (⟨0, []⟩ : Cel)) 2 5 0) (b := 10) rfl rfl ?_)
 have hkn60 : (!decide ((mayL (⟨[fld1, fld2, fld3]⟩ : Typ) (List.replicate (⟨[fld1, fld2, fld3]⟩ : Typ).fields.length (⟨0, []⟩ : Cel)) 2 5 0) = 10)) = false := (by decide +kernel)
 rw [hkn60]
 refine st (ov_pick_f (v := .bool false) rfl rfl ?_)
 refine st (ov_move (v := .bool false) rfl ?_)
 refine sty rfl rfl (ov_loadk (k := 1) Tryd.isAgg33 Tryd.sizeOf33 rfl rfl (CellsAt.all (hS59.blk (i := 1) rfl)) ?_)
 refine sty rfl rfl (ov_move (v := v34) rfl ?_)
 obtain ⟨G61, hA63, hB64, hS65, hk66⟩ := hS59.lend
 have hrd67 := RowE.rd hA63
 have hrd67s : (List.replicate (⟨[fld1, fld2, fld3]⟩ : Typ).fields.length (⟨0, []⟩ : Cel)).length * 32 ≤ 140737488355328 := hrd67.small
 refine sty rfl rfl (ov_call (f := 16) (vals := [.agg ((⟨[fld1, fld2, fld3]⟩ : Typ).cells (.slice (some ⟨bf2, 0, none⟩) 3 3)).toArray, v34, .int .i64 (2), .int .i64 (5), .int .i64 (1)]) (cap := []) (show _ = (.func (.func 16) #[] #[] : Value) from rfl) rfl Tryd.call16 (D_May (t := (⟨[fld1, fld2, fld3]⟩ : Typ)) (c := (List.replicate (⟨[fld1, fld2, fld3]⟩ : Typ).fields.length (⟨0, []⟩ : Cel))) (vc := v34) (f := 2) (op := 5) (arg := 1) (RdS.base hrd25 hB64) ok26 hrd67 (by decide) (by decide) (by decide) hS65 ((by decide +kernel))) ?_)
 rintro _ w68 ⟨rfl, hS69⟩
 have hS70 : Sep G19 w4 ((RowE (α := Cel) own 42 v34 (List.replicate (⟨[fld1, fld2, fld3]⟩ : Typ).fields.length (⟨0, []⟩ : Cel))) :: (Blk b28 ((⟨[fld1, fld2, fld3]⟩ : Typ).cells (.slice (some ⟨bf2, 0, none⟩) 3 3)).toArray 33) :: (Blk bt1 #[(.slice (some ⟨bf2, 0, none⟩) 3 3)] 33) :: Rs) w68 := hk66 _ _ hS69
 refine sty rfl rfl (ov_neq (k := .i64) (a := mayL (⟨[fld1, fld2, fld3]⟩ : Typ) (List.replicate (⟨[fld1, fld2, fld3]⟩ : Typ).fields.length (⟨0, []⟩ : Cel)) 2 5 1) (b := 10) rfl rfl ?_)
 have hkn71 : (!decide ((mayL (⟨[fld1, fld2, fld3]⟩ : Typ) (List.replicate (⟨[fld1, fld2, fld3]⟩ : Typ).fields.length (⟨0, []⟩ : Cel)) 2 5 1) = 10)) = false := (by decide +kernel)
 rw [hkn71]
 refine st (ov_pick_f (v := .bool false) rfl rfl ?_)
 refine st_nil ?_
 refine WP_cond_f rfl ?_
 refine WP_skip ?_
 refine WP_seq ?_
 refine WP_region0 (by kernel_rfl) (fun _ => ?_)
 refine st (ov_loadk (k := 1) Tryd.isAgg33 Tryd.sizeOf33 rfl rfl (CellsAt.all (hS70.blk (i := 1) rfl)) ?_)
 refine st (ov_move (v := v34) rfl ?_)
 obtain ⟨G72, hA74, hB75, hS76, hk77⟩ := hS70.lend
 have hrd78 := RowE.rd hA74
 have hrd78s : (List.replicate (⟨[fld1, fld2, fld3]⟩ : Typ).fields.length (⟨0, []⟩ : Cel)).length * 32 ≤ 140737488355328 := hrd78.small
 refine st (ov_call (f := 17) (vals := [.agg ((⟨[fld1, fld2, fld3]⟩ : Typ).cells (.slice (some ⟨bf2, 0, none⟩) 3 3)).toArray, v34, .int .i64 (0), .int .i64 (1), .int .i64 (2)]) (cap := []) (show _ = (.func (.func 17) #[] #[] : Value) from rfl) rfl Tryd.call17 (D_Do (t := (⟨[fld1, fld2, fld3]⟩ : Typ)) (c := (List.replicate (⟨[fld1, fld2, fld3]⟩ : Typ).fields.length (⟨0, []⟩ : Cel))) (vc := v34) (f := 0) (op := 1) (arg := 2) (RdS.base hrd25 hB75) ok26 hrd78 (by decide) (by decide) (by decide) hS76 ((by decide +kernel)) ((by decide +kernel))) ?_)
 rintro v79 w80 ⟨_, rfl, hS81⟩
 have hr82 := hS81.row (i := 0) rfl
 have hr82s : (doL (⟨[fld1, fld2, fld3]⟩ : Typ) (List.replicate (⟨[fld1, fld2, fld3]⟩ : Typ).fields.length (⟨0, []⟩ : Cel)) 0 1 2).length * 32 ≤ 140737488355328 := hr82.2
 have hS83 : Sep G19 w4 ((RowE (α := Cel) own 42 v34 (List.replicate (⟨[fld1, fld2, fld3]⟩ : Typ).fields.length (⟨0, []⟩ : Cel))) :: (RowE (α := Cel) own 42 v79 (doL (⟨[fld1, fld2, fld3]⟩ : Typ) (List.replicate (⟨[fld1, fld2, fld3]⟩ : Typ).fields.length (⟨0, []⟩ : Cel)) 0 1 2)) :: (Blk b28 ((⟨[fld1, fld2, fld3]⟩ : Typ).cells (.slice (some ⟨bf2, 0, none⟩) 3 3)).toArray 33) :: (Blk bt1 #[(.slice (some ⟨bf2, 0, none⟩) 3 3)] 33) :: Rs) w80 := hk77 _ _ hS81
 refine st (ov_assign (v := v79) rfl ?_)
 refine st_nil ?_
 refine WP_seq ?_
 refine WP_seq ?_
 refine WP_region (by kernel_rfl) ?_
 have hS84 : Sep G19 w4 ((RowE (α := Cel) own 42 v79 (doL (⟨[fld1, fld2, fld3]⟩ : Typ) (List.replicate (⟨[fld1, fld2, fld3]⟩ : Typ).fields.length (⟨0, []⟩ : Cel)) 0 1 2)) :: (RowE (α := Cel) own 42 v34 (List.replicate (⟨[fld1, fld2, fld3]⟩ : Typ).fields.length (⟨0, []⟩ : Cel))) :: (Blk b28 ((⟨[fld1, fld2, fld3]⟩ : Typ).cells (.slice (some ⟨bf2, 0, none⟩) 3 3)).toArray 33) :: (Blk bt1 #[(.slice (some ⟨bf2, 0, none⟩) 3 3)] 33) :: Rs) w80 := hS83.sel 4 [1, 0, 2, 3] (Nat.le_add_left _ _) rfl rfl
 obtain ⟨G85, hA87, hB88, hS89, hk90⟩ := hS84.lend
 have hrd91 := RowE.rd hA87
 have hrd91s : (doL (⟨[fld1, fld2, fld3]⟩ : Typ) (List.replicate (⟨[fld1, fld2, fld3]⟩ : Typ).fields.length (⟨0, []⟩ : Cel)) 0 1 2).length * 32 ≤ 140737488355328 := hrd91.small
 refine st (ov_move (v := v79) rfl ?_)
 refine st (ov_len (n := (doL (⟨[fld1, fld2, fld3]⟩ : Typ) (List.replicate (⟨[fld1, fld2, fld3]⟩ : Typ).fields.length (⟨0, []⟩ : Cel)) 0 1 2).length) Tryd.underlying26 rfl hrd91.sl ?_)
 refine st (ov_neq (k := .i64) (a := (((doL (⟨[fld1, fld2, fld3]⟩ : Typ) (List.replicate (⟨[fld1, fld2, fld3]⟩ : Typ).fields.length (⟨0, []⟩ : Cel)) 0 1 2).length : Nat) : Int)) (b := 3) rfl rfl ?_)
 have hkn92 : (!decide ((((doL (⟨[fld1, fld2, fld3]⟩ : Typ) (List.replicate (⟨[fld1, fld2, fld3]⟩ : Typ).fields.length (⟨0, []⟩ : Cel)) 0 1 2).length : Nat) : Int) = 3)) = false := (by decide +kernel)
 rw [hkn92]
 refine st (ov_move (v := .bool false) rfl ?_)
 refine sty rfl rfl (ov_move (v := v79) rfl ?_)
 have hi93 : 0 < (doL (⟨[fld1, fld2, fld3]⟩ : Typ) (List.replicate (⟨[fld1, fld2, fld3]⟩ : Typ).fields.length (⟨0, []⟩ : Cel)) 0 1 2).length := (by first | omega | decide +kernel)
 refine sty rfl rfl (ov_indexAddrN (k := 2) (i := 0) Tryd.underlying26 Tryd.sizeOf42 rfl hrd91.sl rfl hi93 ?_)
 refine sty rfl rfl (fd42_0 rfl ?_)
 have hi95 : 0 < (doL (⟨[fld1, fld2, fld3]⟩ : Typ) (List.replicate (⟨[fld1, fld2, fld3]⟩ : Typ).fields.length (⟨0, []⟩ : Cel)) 0 1 2).length := (by first | omega | decide +kernel)
 obtain ⟨hce94, hde94_0, hoke94⟩ := hrd91.cel hi95
 rw [← getD_at default hi95] at hce94 hde94_0 hoke94
 have hsm96 : (((doL (⟨[fld1, fld2, fld3]⟩ : Typ) (List.replicate (⟨[fld1, fld2, fld3]⟩ : Typ).fields.length (⟨0, []⟩ : Cel)) 0 1 2).getD 0 default).set).length * 8 ≤ 140737488355328 := hde94_0.small
 have hcw97 := hS89.cells hce94 (hrd91.foot (ne_of_lt hi95))
 refine sty rfl rfl (ov_load1 (v := .int .i64 (((doL (⟨[fld1, fld2, fld3]⟩ : Typ) (List.replicate (⟨[fld1, fld2, fld3]⟩ : Typ).fields.length (⟨0, []⟩ : Cel)) 0 1 2).getD 0 default).n)) Tryd.isAgg3 rfl (hcw97.get (j := 0) rfl) ?_)
 refine sty rfl rfl (ov_neq (k := .i64) (a := ((doL (⟨[fld1, fld2, fld3]⟩ : Typ) (List.replicate (⟨[fld1, fld2, fld3]⟩ : Typ).fields.length (⟨0, []⟩ : Cel)) 0 1 2).getD 0 default).n) (b := 2) rfl rfl ?_)
 have hkn98 : (!decide ((((doL (⟨[fld1, fld2, fld3]⟩ : Typ) (List.replicate (⟨[fld1, fld2, fld3]⟩ : Typ).fields.length (⟨0, []⟩ : Cel)) 0 1 2).getD 0 default).n) = 2)) = false := (by decide +kernel)
 rw [hkn98]
 refine st (ov_pick_f (v := .bool false) rfl rfl ?_)
 refine st (ov_move (v := .bool false) rfl ?_)
 refine sty rfl rfl (ov_loadk (k := 1) Tryd.isAgg33 Tryd.sizeOf33 rfl rfl (CellsAt.all (hS89.blk (i := 1) rfl)) ?_)
 refine sty rfl rfl (ov_move (v := v79) rfl ?_)
 refine sty rfl rfl (ov_call (f := 16) (vals := [.agg ((⟨[fld1, fld2, fld3]⟩ : Typ).cells (.slice (some ⟨bf2, 0, none⟩) 3 3)).toArray, v79, .int .i64 (2), .int .i64 (5), .int .i64 (0)]) (cap := []) (show _ = (.func (.func 16) #[] #[] : Value) from rfl) rfl Tryd.call16 (D_May (t := (⟨[fld1, fld2, fld3]⟩ : Typ)) (c := (doL (⟨[fld1, fld2, fld3]⟩ : Typ) (List.replicate (⟨[fld1, fld2, fld3]⟩ : Typ).fields.length (⟨0, []⟩ : Cel)) 0 1 2)) (vc := v79) (f := 2) (op := 5) (arg := 0) (RdS.base hrd25 hB88) ok26 hrd91 (by decide) (by decide) (by decide) hS89 ((by decide +kernel))) ?_)
 rintro _ w99 ⟨rfl, hS100⟩
 refine sty rfl rfl (ov_neq (k := .i64) (a := mayL (⟨[fld1, fld2, fld3]⟩ : Typ) (doL (⟨[fld1, fld2, fld3]⟩ : Typ) (List.replicate (⟨[fld1, fld2, fld3]⟩ : Typ).fields.length (⟨0, []⟩ : Cel)) 0 1 2) 2 5 0) (b := 0) rfl rfl ?_)
 have hkn101 : (!decide ((mayL (⟨[fld1, fld2, fld3]⟩ : Typ) (doL (⟨[fld1, fld2, fld3]⟩ : Typ) (List.replicate (⟨[fld1, fld2, fld3]⟩ : Typ).fields.length (⟨0, []⟩ : Cel)) 0 1 2) 2 5 0) = 0)) = false := (by decide +kernel)
 rw [hkn101]
 refine st (ov_pick_f (v := .bool false) rfl rfl ?_)
 refine st_nil ?_
 refine WP_cond_f rfl ?_
 refine WP_skip ?_
 refine WP_seq ?_
 refine WP_region0 (by kernel_rfl) (fun _ => ?_)
 refine st (ov_loadk (k := 1) Tryd.isAgg33 Tryd.sizeOf33 rfl rfl (CellsAt.all (hS100.blk (i := 1) rfl)) ?_)
 refine st (ov_move (v := v79) rfl ?_)
 refine st (ov_call (f := 17) (vals := [.agg ((⟨[fld1, fld2, fld3]⟩ : Typ).cells (.slice (some ⟨bf2, 0, none⟩) 3 3)).toArray, v79, .int .i64 (2), .int .i64 (5), .int .i64 (0)]) (cap := []) (show _ = (.func (.func 17) #[] #[] : Value) from rfl) rfl Tryd.call17 (D_Do (t := (⟨[fld1, fld2, fld3]⟩ : Typ)) (c := (doL (⟨[fld1, fld2, fld3]⟩ : Typ) (List.replicate (⟨[fld1, fld2, fld3]⟩ : Typ).fields.length (⟨0, []⟩ : Cel)) 0 1 2)) (vc := v79) (f := 2) (op := 5) (arg := 0) (RdS.base hrd25 hB88) ok26 hrd91 (by decide) (by decide) (by decide) hS100 ((by decide +kernel)) ((by decide +kernel))) ?_)
 rintro v102 w103 ⟨_, rfl, hS104⟩
 have hr105 := hS104.row (i := 0) rfl
 have hr105s : (doL (⟨[fld1, fld2, fld3]⟩ : Typ) (doL (⟨[fld1, fld2, fld3]⟩ : Typ) (List.replicate (⟨[fld1, fld2, fld3]⟩ : Typ).fields.length (⟨0, []⟩ : Cel)) 0 1 2) 2 5 0).length * 32 ≤ 140737488355328 := hr105.2
 refine st (ov_assign (v := v102) rfl ?_)
 refine st_nil ?_
 refine WP_seq ?_
 refine WP_draw4 (WF [fun vals wq => Sep G85 w80 ((RowE (α := Cel) own 42 v102 (doL (⟨[fld1, fld2, fld3]⟩ : Typ) (doL (⟨[fld1, fld2, fld3]⟩ : Typ) (List.replicate (⟨[fld1, fld2, fld3]⟩ : Typ).fields.length (⟨0, []⟩ : Cel)) 0 1 2) 2 5 0)) :: (RowE (α := Cel) own 42 v34 (List.replicate (⟨[fld1, fld2, fld3]⟩ : Typ).fields.length (⟨0, []⟩ : Cel))) :: (Blk b28 ((⟨[fld1, fld2, fld3]⟩ : Typ).cells (.slice (some ⟨bf2, 0, none⟩) 3 3)).toArray 33) :: (Blk bt1 #[(.slice (some ⟨bf2, 0, none⟩) 3 3)] 33) :: Rs) wq, fun vals wq => ∃ (v143 : Value), (vals 3 = (v143 : Value)) ∧ Sep G85 w80 ((RowE (α := Cel) own 42 v34 (List.replicate (⟨[fld1, fld2, fld3]⟩ : Typ).fields.length (⟨0, []⟩ : Cel))) :: (RowE (α := Cel) own 42 v143 (doL (⟨[fld1, fld2, fld3]⟩ : Typ) (List.replicate (⟨[fld1, fld2, fld3]⟩ : Typ).fields.length (⟨0, []⟩ : Cel)) 1 3 5)) :: (RowE (α := Cel) own 42 v102 (doL (⟨[fld1, fld2, fld3]⟩ : Typ) (doL (⟨[fld1, fld2, fld3]⟩ : Typ) (List.replicate (⟨[fld1, fld2, fld3]⟩ : Typ).fields.length (⟨0, []⟩ : Cel)) 0 1 2) 2 5 0)) :: (Blk b28 ((⟨[fld1, fld2, fld3]⟩ : Typ).cells (.slice (some ⟨bf2, 0, none⟩) 3 3)).toArray 33) :: (Blk bt1 #[(.slice (some ⟨bf2, 0, none⟩) 3 3)] 33) :: Rs) wq, fun vals wq => ∃ (v143 : Value) (v165 : Value), (vals 3 = (v143 : Value)) ∧ (vals 4 = (v165 : Value)) ∧ Sep G85 w80 ((RowE (α := Cel) own 42 v143 (doL (⟨[fld1, fld2, fld3]⟩ : Typ) (List.replicate (⟨[fld1, fld2, fld3]⟩ : Typ).fields.length (⟨0, []⟩ : Cel)) 1 3 5)) :: (RowE (α := Cel) own 42 v165 (doL (⟨[fld1, fld2, fld3]⟩ : Typ) (doL (⟨[fld1, fld2, fld3]⟩ : Typ) (List.replicate (⟨[fld1, fld2, fld3]⟩ : Typ).fields.length (⟨0, []⟩ : Cel)) 1 3 5) 1 3 3)) :: (RowE (α := Cel) own 42 v34 (List.replicate (⟨[fld1, fld2, fld3]⟩ : Typ).fields.length (⟨0, []⟩ : Cel))) :: (RowE (α := Cel) own 42 v102 (doL (⟨[fld1, fld2, fld3]⟩ : Typ) (doL (⟨[fld1, fld2, fld3]⟩ : Typ) (List.replicate (⟨[fld1, fld2, fld3]⟩ : Typ).fields.length (⟨0, []⟩ : Cel)) 0 1 2) 2 5 0)) :: (Blk b28 ((⟨[fld1, fld2, fld3]⟩ : Typ).cells (.slice (some ⟨bf2, 0, none⟩) 3 3)).toArray 33) :: (Blk bt1 #[(.slice (some ⟨bf2, 0, none⟩) 3 3)] 33) :: Rs) wq]) (AF [Vl 0 (.agg ((⟨[fld1, fld2, fld3]⟩ : Typ).cells (.slice (some ⟨bf2, 0, none⟩) 3 3)).toArray), Vl 1 (.agg ((⟨[fld1, fld2, fld3]⟩ : Typ).cells (.slice (some ⟨bf2, 0, none⟩) 3 3)).toArray), Vl 2 (v34), fun _ => True, fun _ => True, fun vals => ∀ (v165 : Value), vals 4 = (v165 : Value) → vals 5 = (v165 : Value)]) [[], [], [], [1, 2], [0, 1, 2, 3], [0, 1, 2, 3, 4]] [3, 4] [(0, 1), (0, 0), (0, 0), (0, 0), (1, 1), (2, 2)] (by kernel_rfl) (by kernel_rfl) (by kernel_rfl) rfl (by kernel_rfl) (by kernel_rfl) (fun _ h1 h2 h3 h4 _ => hS104.same h1 h2 h3 h4) ?_ (AF_loc ⟨dA, dA, dA, dT, dT, fun vals vals' hv h => fun v165 hq0 => (hv 5 (.inl rfl)).trans (h v165 ((hv 4 (.inr (by decide))).symm.trans hq0)), trivial⟩) ⟨?_, ?_, ?_, ?_, ?_, ?_, trivial⟩ ?_
 ·intro k vals vals' w hv h
  have e : ∀ j ∈ ([3, 4] : List Nat), vals' j = vals j := hv
  match k, h with
  | 0, h => exact h
  | 1, h => exact (by simpa only [WF, List.getElem?_cons_zero, List.getElem?_cons_succ, e 3 (by decide)] using h)
  | 2, h => exact (by simpa only [WF, List.getElem?_cons_zero, List.getElem?_cons_succ, e 3 (by decide), e 4 (by decide)] using h)
  | _ + 3, _ => trivial
 ·intro k178 vals w179 h182 h183 hW181 hA180
  have hkk : k178 = 0 ∨ k178 = 1 := by have h1 : 0 ≤ k178 := h182; have h2 : k178 ≤ 1 := h183; omega
  rcases hkk with rfl | rfl
  ·skip
   have hS184 : Sep G85 w80 ((RowE (α := Cel) own 42 v102 (doL (⟨[fld1, fld2, fld3]⟩ : Typ) (doL (⟨[fld1, fld2, fld3]⟩ : Typ) (List.replicate (⟨[fld1, fld2, fld3]⟩ : Typ).fields.length (⟨0, []⟩ : Cel)) 0 1 2) 2 5 0)) :: (RowE (α := Cel) own 42 v34 (List.replicate (⟨[fld1, fld2, fld3]⟩ : Typ).fields.length (⟨0, []⟩ : Cel))) :: (Blk b28 ((⟨[fld1, fld2, fld3]⟩ : Typ).cells (.slice (some ⟨bf2, 0, none⟩) 3 3)).toArray 33) :: (Blk bt1 #[(.slice (some ⟨bf2, 0, none⟩) 3 3)] 33) :: Rs) w179 := hW181
   refine obl rfl ?_
   exact ov_loadk (k := 1) Tryd.isAgg33 Tryd.sizeOf33 rfl rfl (CellsAt.all (hS184.blk (i := 2) rfl)) (fun vals' hv _ => ⟨rfl, hv⟩)
  ·skip
   obtain ⟨v143, he148, hS185⟩ : ∃ (v143 : Value), (vals 3 = (v143 : Value)) ∧ Sep G85 w80 ((RowE (α := Cel) own 42 v34 (List.replicate (⟨[fld1, fld2, fld3]⟩ : Typ).fields.length (⟨0, []⟩ : Cel))) :: (RowE (α := Cel) own 42 v143 (doL (⟨[fld1, fld2, fld3]⟩ : Typ) (List.replicate (⟨[fld1, fld2, fld3]⟩ : Typ).fields.length (⟨0, []⟩ : Cel)) 1 3 5)) :: (RowE (α := Cel) own 42 v102 (doL (⟨[fld1, fld2, fld3]⟩ : Typ) (doL (⟨[fld1, fld2, fld3]⟩ : Typ) (List.replicate (⟨[fld1, fld2, fld3]⟩ : Typ).fields.length (⟨0, []⟩ : Cel)) 0 1 2) 2 5 0)) :: (Blk b28 ((⟨[fld1, fld2, fld3]⟩ : Typ).cells (.slice (some ⟨bf2, 0, none⟩) 3 3)).toArray 33) :: (Blk bt1 #[(.slice (some ⟨bf2, 0, none⟩) 3 3)] 33) :: Rs) w179 := hW181
   refine obl rfl ?_
   exact ov_loadk (k := 1) Tryd.isAgg33 Tryd.sizeOf33 rfl rfl (CellsAt.all (hS185.blk (i := 3) rfl)) (fun vals' hv _ => ⟨rfl, hv⟩)
 ·intro k186 vals w187 h190 h191 hW189 hA188
  obtain rfl : k186 = 0 := Nat.le_antisymm h191 h190
  have hS192 : Sep G85 w80 ((RowE (α := Cel) own 42 v102 (doL (⟨[fld1, fld2, fld3]⟩ : Typ) (doL (⟨[fld1, fld2, fld3]⟩ : Typ) (List.replicate (⟨[fld1, fld2, fld3]⟩ : Typ).fields.length (⟨0, []⟩ : Cel)) 0 1 2) 2 5 0)) :: (RowE (α := Cel) own 42 v34 (List.replicate (⟨[fld1, fld2, fld3]⟩ : Typ).fields.length (⟨0, []⟩ : Cel))) :: (Blk b28 ((⟨[fld1, fld2, fld3]⟩ : Typ).cells (.slice (some ⟨bf2, 0, none⟩) 3 3)).toArray 33) :: (Blk bt1 #[(.slice (some ⟨bf2, 0, none⟩) 3 3)] 33) :: Rs) w187 := hW189
  refine obl rfl ?_
  exact ov_loadk (k := 1) Tryd.isAgg33 Tryd.sizeOf33 rfl rfl (CellsAt.all (hS192.blk (i := 2) rfl)) (fun vals' hv _ => ⟨rfl, hv⟩)
 ·intro k193 vals w194 h197 h198 hW196 hA195
  refine obl rfl ?_
  exact ov_move (v := v34) rfl (fun vals' hv _ => ⟨rfl, hv⟩)
 ·intro k126 vals w127 h130 h131 hW129 hA128
  obtain rfl : k126 = 0 := Nat.le_antisymm h131 h130
  have hS132 : Sep G85 w80 ((RowE (α := Cel) own 42 v102 (doL (⟨[fld1, fld2, fld3]⟩ : Typ) (doL (⟨[fld1, fld2, fld3]⟩ : Typ) (List.replicate (⟨[fld1, fld2, fld3]⟩ : Typ).fields.length (⟨0, []⟩ : Cel)) 0 1 2) 2 5 0)) :: (RowE (α := Cel) own 42 v34 (List.replicate (⟨[fld1, fld2, fld3]⟩ : Typ).fields.length (⟨0, []⟩ : Cel))) :: (Blk b28 ((⟨[fld1, fld2, fld3]⟩ : Typ).cells (.slice (some ⟨bf2, 0, none⟩) 3 3)).toArray 33) :: (Blk bt1 #[(.slice (some ⟨bf2, 0, none⟩) 3 3)] 33) :: Rs) w127 := hW129
  have e133 : vals 1 = (.agg ((⟨[fld1, fld2, fld3]⟩ : Typ).cells (.slice (some ⟨bf2, 0, none⟩) 3 3)).toArray : Value) := hA128 1 (by decide)
  have e134 : vals 2 = (v34 : Value) := hA128 2 (by decide)
  refine obl rfl ?_
  have hS135 : Sep G85 w80 ((RowE (α := Cel) own 42 v34 (List.replicate (⟨[fld1, fld2, fld3]⟩ : Typ).fields.length (⟨0, []⟩ : Cel))) :: (RowE (α := Cel) own 42 v102 (doL (⟨[fld1, fld2, fld3]⟩ : Typ) (doL (⟨[fld1, fld2, fld3]⟩ : Typ) (List.replicate (⟨[fld1, fld2, fld3]⟩ : Typ).fields.length (⟨0, []⟩ : Cel)) 0 1 2) 2 5 0)) :: (Blk b28 ((⟨[fld1, fld2, fld3]⟩ : Typ).cells (.slice (some ⟨bf2, 0, none⟩) 3 3)).toArray 33) :: (Blk bt1 #[(.slice (some ⟨bf2, 0, none⟩) 3 3)] 33) :: Rs) w127 := hS132.sel 4 [1, 0, 2, 3] (Nat.le_add_left _ _) rfl rfl
  obtain ⟨G136, hA138, hB139, hS140, hk141⟩ := hS135.lend
  have hrd142 := RowE.rd hA138
  have hrd142s : (List.replicate (⟨[fld1, fld2, fld3]⟩ : Typ).fields.length (⟨0, []⟩ : Cel)).length * 32 ≤ 140737488355328 := hrd142.small
  refine (ov_call (f := 17) (vals := [.agg ((⟨[fld1, fld2, fld3]⟩ : Typ).cells (.slice (some ⟨bf2, 0, none⟩) 3 3)).toArray, v34, .int .i64 (1), .int .i64 (3), .int .i64 (5)]) (cap := []) (show _ = (.func (.func 17) #[] #[] : Value) from rfl) (mapL ⟨e133, e134, rfl, rfl, rfl, trivial⟩) Tryd.call17 (D_Do (t := (⟨[fld1, fld2, fld3]⟩ : Typ)) (c := (List.replicate (⟨[fld1, fld2, fld3]⟩ : Typ).fields.length (⟨0, []⟩ : Cel))) (vc := v34) (f := 1) (op := 3) (arg := 5) (RdS.base (RdS.base hrd25 hB88) hB139) ok26 hrd142 (by decide) (by decide) (by decide) hS140 ((by decide +kernel)) ((by decide +kernel))) ?_)
  rintro v143 w144 ⟨_, rfl, hS145⟩
  have hr146 := hS145.row (i := 0) rfl
  have hr146s : (doL (⟨[fld1, fld2, fld3]⟩ : Typ) (List.replicate (⟨[fld1, fld2, fld3]⟩ : Typ).fields.length (⟨0, []⟩ : Cel)) 1 3 5).length * 32 ≤ 140737488355328 := hr146.2
  have hS147 : Sep G85 w80 ((RowE (α := Cel) own 42 v34 (List.replicate (⟨[fld1, fld2, fld3]⟩ : Typ).fields.length (⟨0, []⟩ : Cel))) :: (RowE (α := Cel) own 42 v143 (doL (⟨[fld1, fld2, fld3]⟩ : Typ) (List.replicate (⟨[fld1, fld2, fld3]⟩ : Typ).fields.length (⟨0, []⟩ : Cel)) 1 3 5)) :: (RowE (α := Cel) own 42 v102 (doL (⟨[fld1, fld2, fld3]⟩ : Typ) (doL (⟨[fld1, fld2, fld3]⟩ : Typ) (List.replicate (⟨[fld1, fld2, fld3]⟩ : Typ).fields.length (⟨0, []⟩ : Cel)) 0 1 2) 2 5 0)) :: (Blk b28 ((⟨[fld1, fld2, fld3]⟩ : Typ).cells (.slice (some ⟨bf2, 0, none⟩) 3 3)).toArray 33) :: (Blk bt1 #[(.slice (some ⟨bf2, 0, none⟩) 3 3)] 33) :: Rs) w144 := hk141 _ _ hS145
  intro vals' hv hv'
  refine ⟨?_, trivial⟩
  show ∃ (v143 : Value), (vals' 3 = (v143 : Value)) ∧ Sep G85 w80 ((RowE (α := Cel) own 42 v34 (List.replicate (⟨[fld1, fld2, fld3]⟩ : Typ).fields.length (⟨0, []⟩ : Cel))) :: (RowE (α := Cel) own 42 v143 (doL (⟨[fld1, fld2, fld3]⟩ : Typ) (List.replicate (⟨[fld1, fld2, fld3]⟩ : Typ).fields.length (⟨0, []⟩ : Cel)) 1 3 5)) :: (RowE (α := Cel) own 42 v102 (doL (⟨[fld1, fld2, fld3]⟩ : Typ) (doL (⟨[fld1, fld2, fld3]⟩ : Typ) (List.replicate (⟨[fld1, fld2, fld3]⟩ : Typ).fields.length (⟨0, []⟩ : Cel)) 0 1 2) 2 5 0)) :: (Blk b28 ((⟨[fld1, fld2, fld3]⟩ : Typ).cells (.slice (some ⟨bf2, 0, none⟩) 3 3)).toArray 33) :: (Blk bt1 #[(.slice (some ⟨bf2, 0, none⟩) 3 3)] 33) :: Rs) w144
  exact ⟨v143, hv, hS147⟩
 ·intro k149 vals w150 h153 h154 hW152 hA151
  obtain rfl : k149 = 1 := Nat.le_antisymm h154 h153
  obtain ⟨v143, he148, hS155⟩ : ∃ (v143 : Value), (vals 3 = (v143 : Value)) ∧ Sep G85 w80 ((RowE (α := Cel) own 42 v34 (List.replicate (⟨[fld1, fld2, fld3]⟩ : Typ).fields.length (⟨0, []⟩ : Cel))) :: (RowE (α := Cel) own 42 v143 (doL (⟨[fld1, fld2, fld3]⟩ : Typ) (List.replicate (⟨[fld1, fld2, fld3]⟩ : Typ).fields.length (⟨0, []⟩ : Cel)) 1 3 5)) :: (RowE (α := Cel) own 42 v102 (doL (⟨[fld1, fld2, fld3]⟩ : Typ) (doL (⟨[fld1, fld2, fld3]⟩ : Typ) (List.replicate (⟨[fld1, fld2, fld3]⟩ : Typ).fields.length (⟨0, []⟩ : Cel)) 0 1 2) 2 5 0)) :: (Blk b28 ((⟨[fld1, fld2, fld3]⟩ : Typ).cells (.slice (some ⟨bf2, 0, none⟩) 3 3)).toArray 33) :: (Blk bt1 #[(.slice (some ⟨bf2, 0, none⟩) 3 3)] 33) :: Rs) w150 := hW152
  have e156 : vals 0 = (.agg ((⟨[fld1, fld2, fld3]⟩ : Typ).cells (.slice (some ⟨bf2, 0, none⟩) 3 3)).toArray : Value) := hA151 0 (by decide)
  refine obl rfl ?_
  have hS157 : Sep G85 w80 ((RowE (α := Cel) own 42 v143 (doL (⟨[fld1, fld2, fld3]⟩ : Typ) (List.replicate (⟨[fld1, fld2, fld3]⟩ : Typ).fields.length (⟨0, []⟩ : Cel)) 1 3 5)) :: (RowE (α := Cel) own 42 v34 (List.replicate (⟨[fld1, fld2, fld3]⟩ : Typ).fields.length (⟨0, []⟩ : Cel))) :: (RowE (α := Cel) own 42 v102 (doL (⟨[fld1, fld2, fld3]⟩ : Typ) (doL (⟨[fld1, fld2, fld3]⟩ : Typ) (List.replicate (⟨[fld1, fld2, fld3]⟩ : Typ).fields.length (⟨0, []⟩ : Cel)) 0 1 2) 2 5 0)) :: (Blk b28 ((⟨[fld1, fld2, fld3]⟩ : Typ).cells (.slice (some ⟨bf2, 0, none⟩) 3 3)).toArray 33) :: (Blk bt1 #[(.slice (some ⟨bf2, 0, none⟩) 3 3)] 33) :: Rs) w150 := hS155.sel 5 [1, 0, 2, 3, 4] (Nat.le_add_left _ _) rfl rfl
  obtain ⟨G158, hA160, hB161, hS162, hk163⟩ := hS157.lend
  have hrd164 := RowE.rd hA160
  have hrd164s : (doL (⟨[fld1, fld2, fld3]⟩ : Typ) (List.replicate (⟨[fld1, fld2, fld3]⟩ : Typ).fields.length (⟨0, []⟩ : Cel)) 1 3 5).length * 32 ≤ 140737488355328 := hrd164.small
  refine (ov_call (f := 17) (vals := [.agg ((⟨[fld1, fld2, fld3]⟩ : Typ).cells (.slice (some ⟨bf2, 0, none⟩) 3 3)).toArray, v143, .int .i64 (1), .int .i64 (3), .int .i64 (3)]) (cap := []) (show _ = (.func (.func 17) #[] #[] : Value) from rfl) (mapL ⟨e156, he148, rfl, rfl, rfl, trivial⟩) Tryd.call17 (D_Do (t := (⟨[fld1, fld2, fld3]⟩ : Typ)) (c := (doL (⟨[fld1, fld2, fld3]⟩ : Typ) (List.replicate (⟨[fld1, fld2, fld3]⟩ : Typ).fields.length (⟨0, []⟩ : Cel)) 1 3 5)) (vc := v143) (f := 1) (op := 3) (arg := 3) (RdS.base (RdS.base hrd25 hB88) hB161) ok26 hrd164 (by decide) (by decide) (by decide) hS162 ((by decide +kernel)) ((by decide +kernel))) ?_)
  rintro v165 w166 ⟨_, rfl, hS167⟩
  have hr168 := hS167.row (i := 0) rfl
  have hr168s : (doL (⟨[fld1, fld2, fld3]⟩ : Typ) (doL (⟨[fld1, fld2, fld3]⟩ : Typ) (List.replicate (⟨[fld1, fld2, fld3]⟩ : Typ).fields.length (⟨0, []⟩ : Cel)) 1 3 5) 1 3 3).length * 32 ≤ 140737488355328 := hr168.2
  have hS169 : Sep G85 w80 ((RowE (α := Cel) own 42 v143 (doL (⟨[fld1, fld2, fld3]⟩ : Typ) (List.replicate (⟨[fld1, fld2, fld3]⟩ : Typ).fields.length (⟨0, []⟩ : Cel)) 1 3 5)) :: (RowE (α := Cel) own 42 v165 (doL (⟨[fld1, fld2, fld3]⟩ : Typ) (doL (⟨[fld1, fld2, fld3]⟩ : Typ) (List.replicate (⟨[fld1, fld2, fld3]⟩ : Typ).fields.length (⟨0, []⟩ : Cel)) 1 3 5) 1 3 3)) :: (RowE (α := Cel) own 42 v34 (List.replicate (⟨[fld1, fld2, fld3]⟩ : Typ).fields.length (⟨0, []⟩ : Cel))) :: (RowE (α := Cel) own 42 v102 (doL (⟨[fld1, fld2, fld3]⟩ : Typ) (doL (⟨[fld1, fld2, fld3]⟩ : Typ) (List.replicate (⟨[fld1, fld2, fld3]⟩ : Typ).fields.length (⟨0, []⟩ : Cel)) 0 1 2) 2 5 0)) :: (Blk b28 ((⟨[fld1, fld2, fld3]⟩ : Typ).cells (.slice (some ⟨bf2, 0, none⟩) 3 3)).toArray 33) :: (Blk bt1 #[(.slice (some ⟨bf2, 0, none⟩) 3 3)] 33) :: Rs) w166 := hk163 _ _ hS167
  intro vals' hv hv'
  refine ⟨?_, trivial⟩
  show ∃ (v143 : Value) (v165 : Value), (vals' 3 = (v143 : Value)) ∧ (vals' 4 = (v165 : Value)) ∧ Sep G85 w80 ((RowE (α := Cel) own 42 v143 (doL (⟨[fld1, fld2, fld3]⟩ : Typ) (List.replicate (⟨[fld1, fld2, fld3]⟩ : Typ).fields.length (⟨0, []⟩ : Cel)) 1 3 5)) :: (RowE (α := Cel) own 42 v165 (doL (⟨[fld1, fld2, fld3]⟩ : Typ) (doL (⟨[fld1, fld2, fld3]⟩ : Typ) (List.replicate (⟨[fld1, fld2, fld3]⟩ : Typ).fields.length (⟨0, []⟩ : Cel)) 1 3 5) 1 3 3)) :: (RowE (α := Cel) own 42 v34 (List.replicate (⟨[fld1, fld2, fld3]⟩ : Typ).fields.length (⟨0, []⟩ : Cel))) :: (RowE (α := Cel) own 42 v102 (doL (⟨[fld1, fld2, fld3]⟩ : Typ) (doL (⟨[fld1, fld2, fld3]⟩ : Typ) (List.replicate (⟨[fld1, fld2, fld3]⟩ : Typ).fields.length (⟨0, []⟩ : Cel)) 0 1 2) 2 5 0)) :: (Blk b28 ((⟨[fld1, fld2, fld3]⟩ : Typ).cells (.slice (some ⟨bf2, 0, none⟩) 3 3)).toArray 33) :: (Blk bt1 #[(.slice (some ⟨bf2, 0, none⟩) 3 3)] 33) :: Rs) w166
  exact ⟨v143, v165, (by rw [hv' 3 (by decide)]; exact he148), hv, hS169⟩
 ·intro k199 vals w200 h203 h204 hW202 hA201
  obtain rfl : k199 = 2 := Nat.le_antisymm h204 h203
  obtain ⟨v143, v165, he148, he170, hS205⟩ : ∃ (v143 : Value) (v165 : Value), (vals 3 = (v143 : Value)) ∧ (vals 4 = (v165 : Value)) ∧ Sep G85 w80 ((RowE (α := Cel) own 42 v143 (doL (⟨[fld1, fld2, fld3]⟩ : Typ) (List.replicate (⟨[fld1, fld2, fld3]⟩ : Typ).fields.length (⟨0, []⟩ : Cel)) 1 3 5)) :: (RowE (α := Cel) own 42 v165 (doL (⟨[fld1, fld2, fld3]⟩ : Typ) (doL (⟨[fld1, fld2, fld3]⟩ : Typ) (List.replicate (⟨[fld1, fld2, fld3]⟩ : Typ).fields.length (⟨0, []⟩ : Cel)) 1 3 5) 1 3 3)) :: (RowE (α := Cel) own 42 v34 (List.replicate (⟨[fld1, fld2, fld3]⟩ : Typ).fields.length (⟨0, []⟩ : Cel))) :: (RowE (α := Cel) own 42 v102 (doL (⟨[fld1, fld2, fld3]⟩ : Typ) (doL (⟨[fld1, fld2, fld3]⟩ : Typ) (List.replicate (⟨[fld1, fld2, fld3]⟩ : Typ).fields.length (⟨0, []⟩ : Cel)) 0 1 2) 2 5 0)) :: (Blk b28 ((⟨[fld1, fld2, fld3]⟩ : Typ).cells (.slice (some ⟨bf2, 0, none⟩) 3 3)).toArray 33) :: (Blk bt1 #[(.slice (some ⟨bf2, 0, none⟩) 3 3)] 33) :: Rs) w200 := hW202
  refine obl rfl ?_
  refine ov_assign (v := v165) he170 (fun vals' hv hv' => ⟨rfl, ?_⟩)
  intro v165q hq0
  rw [hv' 4 (by decide)] at hq0; cases he170.symm.trans hq0
  exact hv
 intro vals w206 hW207 hA208
 obtain ⟨v143, v165, he148, he170, hS209⟩ : ∃ (v143 : Value) (v165 : Value), (vals 3 = (v143 : Value)) ∧ (vals 4 = (v165 : Value)) ∧ Sep G85 w80 ((RowE (α := Cel) own 42 v143 (doL (⟨[fld1, fld2, fld3]⟩ : Typ) (List.replicate (⟨[fld1, fld2, fld3]⟩ : Typ).fields.length (⟨0, []⟩ : Cel)) 1 3 5)) :: (RowE (α := Cel) own 42 v165 (doL (⟨[fld1, fld2, fld3]⟩ : Typ) (doL (⟨[fld1, fld2, fld3]⟩ : Typ) (List.replicate (⟨[fld1, fld2, fld3]⟩ : Typ).fields.length (⟨0, []⟩ : Cel)) 1 3 5) 1 3 3)) :: (RowE (α := Cel) own 42 v34 (List.replicate (⟨[fld1, fld2, fld3]⟩ : Typ).fields.length (⟨0, []⟩ : Cel))) :: (RowE (α := Cel) own 42 v102 (doL (⟨[fld1, fld2, fld3]⟩ : Typ) (doL (⟨[fld1, fld2, fld3]⟩ : Typ) (List.replicate (⟨[fld1, fld2, fld3]⟩ : Typ).fields.length (⟨0, []⟩ : Cel)) 0 1 2) 2 5 0)) :: (Blk b28 ((⟨[fld1, fld2, fld3]⟩ : Typ).cells (.slice (some ⟨bf2, 0, none⟩) 3 3)).toArray 33) :: (Blk bt1 #[(.slice (some ⟨bf2, 0, none⟩) 3 3)] 33) :: Rs) w206 := hW207
 have e210 : vals 5 = (v165 : Value) := hA208 5 (by decide) v165 he170
 refine st_env (kv := [(0, .bool false), (6, .agg #[(.slice (some ⟨bt1, 0, none⟩) 1 1), .slice none 0 0]), (7, (.slice (some ⟨bt1, 0, none⟩) 1 1)), (8, .pointer (some ⟨bt1, 0, none⟩)), (9, .agg ((⟨[fld1, fld2, fld3]⟩ : Typ).cells (.slice (some ⟨bf2, 0, none⟩) 3 3)).toArray), (1, .pointer (some ⟨b28, 0, none⟩)), (10, .agg ((⟨[fld1, fld2, fld3]⟩ : Typ).cells (.slice (some ⟨bf2, 0, none⟩) 3 3)).toArray), (11, v34), (2, v34), (12, v34), (13, .int .i64 (((List.replicate (⟨[fld1, fld2, fld3]⟩ : Typ).fields.length (⟨0, []⟩ : Cel)).length : Nat) : Int)), (14, .bool false), (15, .bool false), (16, .agg ((⟨[fld1, fld2, fld3]⟩ : Typ).cells (.slice (some ⟨bf2, 0, none⟩) 3 3)).toArray), (17, v34), (18, .int .i64 (mayL (⟨[fld1, fld2, fld3]⟩ : Typ) (List.replicate (⟨[fld1, fld2, fld3]⟩ : Typ).fields.length (⟨0, []⟩ : Cel)) 0 1 (-1))), (19, .bool false), (20, .bool false), (21, .bool false), (22, .agg ((⟨[fld1, fld2, fld3]⟩ : Typ).cells (.slice (some ⟨bf2, 0, none⟩) 3 3)).toArray), (23, v34), (24, .int .i64 (mayL (⟨[fld1, fld2, fld3]⟩ : Typ) (List.replicate (⟨[fld1, fld2, fld3]⟩ : Typ).fields.length (⟨0, []⟩ : Cel)) 2 5 0)), (25, .bool false), (26, .bool false), (27, .bool false), (28, .agg ((⟨[fld1, fld2, fld3]⟩ : Typ).cells (.slice (some ⟨bf2, 0, none⟩) 3 3)).toArray), (29, v34), (30, .int .i64 (mayL (⟨[fld1, fld2, fld3]⟩ : Typ) (List.replicate (⟨[fld1, fld2, fld3]⟩ : Typ).fields.length (⟨0, []⟩ : Cel)) 2 5 1)), (31, .bool false), (32, .bool false), (33, .agg ((⟨[fld1, fld2, fld3]⟩ : Typ).cells (.slice (some ⟨bf2, 0, none⟩) 3 3)).toArray), (34, v34), (35, v79), (3, v79), (36, v79), (37, .int .i64 (((doL (⟨[fld1, fld2, fld3]⟩ : Typ) (List.replicate (⟨[fld1, fld2, fld3]⟩ : Typ).fields.length (⟨0, []⟩ : Cel)) 0 1 2).length : Nat) : Int)), (38, .bool false), (39, .bool false), (40, v79), (41, .pointer (some ⟨sb v79, so v79 + 0 * 2, none⟩)), (42, .pointer (some ⟨sb v79, so v79 + 0 * 2, none⟩)), (43, .int .i64 (((doL (⟨[fld1, fld2, fld3]⟩ : Typ) (List.replicate (⟨[fld1, fld2, fld3]⟩ : Typ).fields.length (⟨0, []⟩ : Cel)) 0 1 2).getD 0 default).n)), (44, .bool false), (45, .bool false), (46, .bool false), (47, .agg ((⟨[fld1, fld2, fld3]⟩ : Typ).cells (.slice (some ⟨bf2, 0, none⟩) 3 3)).toArray), (48, v79), (49, .int .i64 (mayL (⟨[fld1, fld2, fld3]⟩ : Typ) (doL (⟨[fld1, fld2, fld3]⟩ : Typ) (List.replicate (⟨[fld1, fld2, fld3]⟩ : Typ).fields.length (⟨0, []⟩ : Cel)) 0 1 2) 2 5 0)), (50, .bool false), (51, .bool false), (52, .agg ((⟨[fld1, fld2, fld3]⟩ : Typ).cells (.slice (some ⟨bf2, 0, none⟩) 3 3)).toArray), (53, v79), (54, v102), (4, v102), (5, v165)]) ⟨rfl, rfl, rfl, rfl, rfl, rfl, rfl, rfl, rfl, rfl, rfl, rfl, rfl, rfl, rfl, rfl, rfl, rfl, rfl, rfl, rfl, rfl, rfl, rfl, rfl, rfl, rfl, rfl, rfl, rfl, rfl, rfl, rfl, rfl, rfl, rfl, rfl, rfl, rfl, rfl, rfl, rfl, rfl, rfl, rfl, rfl, rfl, rfl, rfl, rfl, rfl, rfl, rfl, rfl, (by exact e210), trivial⟩ (fun ρw206 => ?_)
 refine st_nil ?_
 refine WP_seq ?_
 refine WP_region (by kernel_rfl) ?_
 have hS211 : Sep G85 w80 ((RowE (α := Cel) own 42 v102 (doL (⟨[fld1, fld2, fld3]⟩ : Typ) (doL (⟨[fld1, fld2, fld3]⟩ : Typ) (List.replicate (⟨[fld1, fld2, fld3]⟩ : Typ).fields.length (⟨0, []⟩ : Cel)) 0 1 2) 2 5 0)) :: (RowE (α := Cel) own 42 v143 (doL (⟨[fld1, fld2, fld3]⟩ : Typ) (List.replicate (⟨[fld1, fld2, fld3]⟩ : Typ).fields.length (⟨0, []⟩ : Cel)) 1 3 5)) :: (RowE (α := Cel) own 42 v165 (doL (⟨[fld1, fld2, fld3]⟩ : Typ) (doL (⟨[fld1, fld2, fld3]⟩ : Typ) (List.replicate (⟨[fld1, fld2, fld3]⟩ : Typ).fields.length (⟨0, []⟩ : Cel)) 1 3 5) 1 3 3)) :: (RowE (α := Cel) own 42 v34 (List.replicate (⟨[fld1, fld2, fld3]⟩ : Typ).fields.length (⟨0, []⟩ : Cel))) :: (Blk b28 ((⟨[fld1, fld2, fld3]⟩ : Typ).cells (.slice (some ⟨bf2, 0, none⟩) 3 3)).toArray 33) :: (Blk bt1 #[(.slice (some ⟨bf2, 0, none⟩) 3 3)] 33) :: Rs) w206 := hS209.sel 6 [3, 0, 1, 2, 4, 5] (Nat.le_add_left _ _) rfl rfl
 obtain ⟨G212, hA214, hB215, hS216, hk217⟩ := hS211.lend
 have hrd218 := RowE.rd hA214
 have hrd218s : (doL (⟨[fld1, fld2, fld3]⟩ : Typ) (doL (⟨[fld1, fld2, fld3]⟩ : Typ) (List.replicate (⟨[fld1, fld2, fld3]⟩ : Typ).fields.length (⟨0, []⟩ : Cel)) 0 1 2) 2 5 0).length * 32 ≤ 140737488355328 := hrd218.small
 have hS219 : Sep G212 w206 ((RowE (α := Cel) own 42 v165 (doL (⟨[fld1, fld2, fld3]⟩ : Typ) (doL (⟨[fld1, fld2, fld3]⟩ : Typ) (List.replicate (⟨[fld1, fld2, fld3]⟩ : Typ).fields.length (⟨0, []⟩ : Cel)) 1 3 5) 1 3 3)) :: (RowE (α := Cel) own 42 v143 (doL (⟨[fld1, fld2, fld3]⟩ : Typ) (List.replicate (⟨[fld1, fld2, fld3]⟩ : Typ).fields.length (⟨0, []⟩ : Cel)) 1 3 5)) :: (RowE (α := Cel) own 42 v34 (List.replicate (⟨[fld1, fld2, fld3]⟩ : Typ).fields.length (⟨0, []⟩ : Cel))) :: (Blk b28 ((⟨[fld1, fld2, fld3]⟩ : Typ).cells (.slice (some ⟨bf2, 0, none⟩) 3 3)).toArray 33) :: (Blk bt1 #[(.slice (some ⟨bf2, 0, none⟩) 3 3)] 33) :: Rs) w206 := hS216.sel 5 [1, 0, 2, 3, 4] (Nat.le_add_left _ _) rfl rfl
 obtain ⟨G220, hA222, hB223, hS224, hk225⟩ := hS219.lend
 have hrd226 := RowE.rd hA222
 have hrd226s : (doL (⟨[fld1, fld2, fld3]⟩ : Typ) (doL (⟨[fld1, fld2, fld3]⟩ : Typ) (List.replicate (⟨[fld1, fld2, fld3]⟩ : Typ).fields.length (⟨0, []⟩ : Cel)) 1 3 5) 1 3 3).length * 32 ≤ 140737488355328 := hrd226.small
 refine st (ov_move (v := v102) rfl ?_)
 refine st (ov_len (n := (doL (⟨[fld1, fld2, fld3]⟩ : Typ) (doL (⟨[fld1, fld2, fld3]⟩ : Typ) (List.replicate (⟨[fld1, fld2, fld3]⟩ : Typ).fields.length (⟨0, []⟩ : Cel)) 0 1 2) 2 5 0).length) Tryd.underlying26 rfl (RdS.base hrd218 hB223).sl ?_)
 refine st (ov_eql (k := .i64) (a := (((doL (⟨[fld1, fld2, fld3]⟩ : Typ) (doL (⟨[fld1, fld2, fld3]⟩ : Typ) (List.replicate (⟨[fld1, fld2, fld3]⟩ : Typ).fields.length (⟨0, []⟩ : Cel)) 0 1 2) 2 5 0).length : Nat) : Int)) (b := 3) rfl rfl ?_)
 have hkn227 : (decide ((((doL (⟨[fld1, fld2, fld3]⟩ : Typ) (doL (⟨[fld1, fld2, fld3]⟩ : Typ) (List.replicate (⟨[fld1, fld2, fld3]⟩ : Typ).fields.length (⟨0, []⟩ : Cel)) 0 1 2) 2 5 0).length : Nat) : Int) = 3)) = true := (by decide +kernel)
 rw [hkn227]
 refine st (ov_move (v := .bool true) rfl ?_)
 refine sty rfl rfl (ov_move (v := v102) rfl ?_)
 have hi228 : 2 < (doL (⟨[fld1, fld2, fld3]⟩ : Typ) (doL (⟨[fld1, fld2, fld3]⟩ : Typ) (List.replicate (⟨[fld1, fld2, fld3]⟩ : Typ).fields.length (⟨0, []⟩ : Cel)) 0 1 2) 2 5 0).length := (by first | omega | decide +kernel)
 refine sty rfl rfl (ov_indexAddrN (k := 2) (i := 2) Tryd.underlying26 Tryd.sizeOf42 rfl (RdS.base hrd218 hB223).sl rfl hi228 ?_)
 refine sty rfl rfl (fd42_0 rfl ?_)
 have hi230 : 2 < (doL (⟨[fld1, fld2, fld3]⟩ : Typ) (doL (⟨[fld1, fld2, fld3]⟩ : Typ) (List.replicate (⟨[fld1, fld2, fld3]⟩ : Typ).fields.length (⟨0, []⟩ : Cel)) 0 1 2) 2 5 0).length := (by first | omega | decide +kernel)
 obtain ⟨hce229, hde229_0, hoke229⟩ := (RdS.base hrd218 hB223).cel hi230
 rw [← getD_at default hi230] at hce229 hde229_0 hoke229
 have hsm231 : (((doL (⟨[fld1, fld2, fld3]⟩ : Typ) (doL (⟨[fld1, fld2, fld3]⟩ : Typ) (List.replicate (⟨[fld1, fld2, fld3]⟩ : Typ).fields.length (⟨0, []⟩ : Cel)) 0 1 2) 2 5 0).getD 2 default).set).length * 8 ≤ 140737488355328 := hde229_0.small
 have hcw232 := hS224.cells hce229 ((RdS.base hrd218 hB223).foot (ne_of_lt hi230))
 refine sty rfl rfl (ov_load1 (v := .int .i64 (((doL (⟨[fld1, fld2, fld3]⟩ : Typ) (doL (⟨[fld1, fld2, fld3]⟩ : Typ) (List.replicate (⟨[fld1, fld2, fld3]⟩ : Typ).fields.length (⟨0, []⟩ : Cel)) 0 1 2) 2 5 0).getD 2 default).n)) Tryd.isAgg3 rfl (hcw232.get (j := 0) rfl) ?_)
 refine sty rfl rfl (ov_eql (k := .i64) (a := ((doL (⟨[fld1, fld2, fld3]⟩ : Typ) (doL (⟨[fld1, fld2, fld3]⟩ : Typ) (List.replicate (⟨[fld1, fld2, fld3]⟩ : Typ).fields.length (⟨0, []⟩ : Cel)) 0 1 2) 2 5 0).getD 2 default).n) (b := 1) rfl rfl ?_)
 have hkn233 : (decide ((((doL (⟨[fld1, fld2, fld3]⟩ : Typ) (doL (⟨[fld1, fld2, fld3]⟩ : Typ) (List.replicate (⟨[fld1, fld2, fld3]⟩ : Typ).fields.length (⟨0, []⟩ : Cel)) 0 1 2) 2 5 0).getD 2 default).n) = 1)) = true := (by decide +kernel)
 rw [hkn233]
 refine st (ov_pick_t (v := .bool true) rfl rfl ?_)
 refine st (ov_move (v := .bool true) rfl ?_)
 refine sty rfl rfl (ov_move (v := v165) rfl ?_)
 refine sty rfl rfl (ov_len (n := (doL (⟨[fld1, fld2, fld3]⟩ : Typ) (doL (⟨[fld1, fld2, fld3]⟩ : Typ) (List.replicate (⟨[fld1, fld2, fld3]⟩ : Typ).fields.length (⟨0, []⟩ : Cel)) 1 3 5) 1 3 3).length) Tryd.underlying26 rfl hrd226.sl ?_)
 refine sty rfl rfl (ov_eql (k := .i64) (a := (((doL (⟨[fld1, fld2, fld3]⟩ : Typ) (doL (⟨[fld1, fld2, fld3]⟩ : Typ) (List.replicate (⟨[fld1, fld2, fld3]⟩ : Typ).fields.length (⟨0, []⟩ : Cel)) 1 3 5) 1 3 3).length : Nat) : Int)) (b := 3) rfl rfl ?_)
 have hkn234 : (decide ((((doL (⟨[fld1, fld2, fld3]⟩ : Typ) (doL (⟨[fld1, fld2, fld3]⟩ : Typ) (List.replicate (⟨[fld1, fld2, fld3]⟩ : Typ).fields.length (⟨0, []⟩ : Cel)) 1 3 5) 1 3 3).length : Nat) : Int) = 3)) = true := (by decide +kernel)
 rw [hkn234]
 refine st (ov_pick_t (v := .bool true) rfl rfl ?_)
 refine st (ov_move (v := .bool true) rfl ?_)
 refine sty rfl rfl (ov_move (v := v165) rfl ?_)
 have hi235 : 1 < (doL (⟨[fld1, fld2, fld3]⟩ : Typ) (doL (⟨[fld1, fld2, fld3]⟩ : Typ) (List.replicate (⟨[fld1, fld2, fld3]⟩ : Typ).fields.length (⟨0, []⟩ : Cel)) 1 3 5) 1 3 3).length := (by first | omega | decide +kernel)
 refine sty rfl rfl (ov_indexAddrN (k := 2) (i := 1) Tryd.underlying26 Tryd.sizeOf42 rfl hrd226.sl rfl hi235 ?_)
 refine sty rfl rfl (fd42_1 rfl ?_)
 have hi237 : 1 < (doL (⟨[fld1, fld2, fld3]⟩ : Typ) (doL (⟨[fld1, fld2, fld3]⟩ : Typ) (List.replicate (⟨[fld1, fld2, fld3]⟩ : Typ).fields.length (⟨0, []⟩ : Cel)) 1 3 5) 1 3 3).length := (by first | omega | decide +kernel)
 obtain ⟨hce236, hde236_0, hoke236⟩ := hrd226.cel hi237
 rw [← getD_at default hi237] at hce236 hde236_0 hoke236
 have hsm238 : (((doL (⟨[fld1, fld2, fld3]⟩ : Typ) (doL (⟨[fld1, fld2, fld3]⟩ : Typ) (List.replicate (⟨[fld1, fld2, fld3]⟩ : Typ).fields.length (⟨0, []⟩ : Cel)) 1 3 5) 1 3 3).getD 1 default).set).length * 8 ≤ 140737488355328 := hde236_0.small
 have hcw239 := hS224.cells hce236 (hrd226.foot (ne_of_lt hi237))
 refine sty rfl rfl (ov_load1 (v := (cellV w206 (sb v165) (so v165 + 1 * 2 + 1))) Tryd.isAgg40 rfl (hcw239.get (j := 1) rfl) ?_)
 refine sty rfl rfl (ov_buildSlice (k := 1) (parts' := [(0, .int .i64 (3)), (1, .int .i64 (5))]) (c := #[.int .i64 (3), .int .i64 (5)]) Tryd.underlying40 Tryd.sizeOf3 Tryd.zeroValue3 (by decide) rfl (by kernel_rfl) ?_)
 intro w242 b241 hn240
 have hS243 : Sep G220 w206 ((Blk b241 #[.int .i64 (3), .int .i64 (5)] 3) :: (RowE (α := Cel) own 42 v143 (doL (⟨[fld1, fld2, fld3]⟩ : Typ) (List.replicate (⟨[fld1, fld2, fld3]⟩ : Typ).fields.length (⟨0, []⟩ : Cel)) 1 3 5)) :: (RowE (α := Cel) own 42 v34 (List.replicate (⟨[fld1, fld2, fld3]⟩ : Typ).fields.length (⟨0, []⟩ : Cel))) :: (Blk b28 ((⟨[fld1, fld2, fld3]⟩ : Typ).cells (.slice (some ⟨bf2, 0, none⟩) 3 3)).toArray 33) :: (Blk bt1 #[(.slice (some ⟨bf2, 0, none⟩) 3 3)] 33) :: Rs) w242 := hS224.new hn240
 have hS244 : Sep G220 w206 ((RowE (α := Int) own 3 (.slice (some ⟨b241, 0, none⟩) 2 2) [3, 5]) :: (RowE (α := Cel) own 42 v143 (doL (⟨[fld1, fld2, fld3]⟩ : Typ) (List.replicate (⟨[fld1, fld2, fld3]⟩ : Typ).fields.length (⟨0, []⟩ : Cel)) 1 3 5)) :: (RowE (α := Cel) own 42 v34 (List.replicate (⟨[fld1, fld2, fld3]⟩ : Typ).fields.length (⟨0, []⟩ : Cel))) :: (Blk b28 ((⟨[fld1, fld2, fld3]⟩ : Typ).cells (.slice (some ⟨bf2, 0, none⟩) 3 3)).toArray 33) :: (Blk bt1 #[(.slice (some ⟨bf2, 0, none⟩) 3 3)] 33) :: Rs) w242 := Sep.blkRow (src := own) (l := [3, 5]) (css := [[.int .i64 (3)], [.int .i64 (5)]]) hS243 rfl ⟨fun _ _ => ⟨rfl, (by decide)⟩, fun _ _ => ⟨rfl, (by decide)⟩, trivial⟩ (by first | decide | (simp only [List.length_cons, List.length_nil]; decide))
 have hr245 := hS244.row (i := 0) rfl
 have hr245s : [3, 5].length * 8 ≤ 140737488355328 := hr245.2
 obtain ⟨G246, hA248, hB249, hS250, hk251⟩ := hS244.lend
 have hrd252 := RowE.rd hA248
 have hrd252s : [3, 5].length * 8 ≤ 140737488355328 := hrd252.small
 refine sty rfl rfl (ov_call (f := 19) (vals := [(cellV w206 (sb v165) (so v165 + 1 * 2 + 1)), (.slice (some ⟨b241, 0, none⟩) 2 2)]) (cap := []) (show _ = (.func (.func 19) #[] #[] : Value) from rfl) rfl Tryd.call19 (D_SameInts (a := ((doL (⟨[fld1, fld2, fld3]⟩ : Typ) (doL (⟨[fld1, fld2, fld3]⟩ : Typ) (List.replicate (⟨[fld1, fld2, fld3]⟩ : Typ).fields.length (⟨0, []⟩ : Cel)) 1 3 5) 1 3 3).getD 1 default).set) (va := (cellV w206 (sb v165) (so v165 + 1 * 2 + 1))) (b := [3, 5]) (vb := (.slice (some ⟨b241, 0, none⟩) 2 2)) (RdS.base hde236_0 hB249) hrd252 hS250) ?_)
 rintro _ w253 ⟨rfl, hS254⟩
 have hS255 : Sep G220 w206 ((RowE (α := Int) own 3 (.slice (some ⟨b241, 0, none⟩) 2 2) [3, 5]) :: (RowE (α := Cel) own 42 v143 (doL (⟨[fld1, fld2, fld3]⟩ : Typ) (List.replicate (⟨[fld1, fld2, fld3]⟩ : Typ).fields.length (⟨0, []⟩ : Cel)) 1 3 5)) :: (RowE (α := Cel) own 42 v34 (List.replicate (⟨[fld1, fld2, fld3]⟩ : Typ).fields.length (⟨0, []⟩ : Cel))) :: (Blk b28 ((⟨[fld1, fld2, fld3]⟩ : Typ).cells (.slice (some ⟨bf2, 0, none⟩) 3 3)).toArray 33) :: (Blk bt1 #[(.slice (some ⟨bf2, 0, none⟩) 3 3)] 33) :: Rs) w253 := hk251 _ _ hS254
 have hkn256 : (decide ((((doL (⟨[fld1, fld2, fld3]⟩ : Typ) (doL (⟨[fld1, fld2, fld3]⟩ : Typ) (List.replicate (⟨[fld1, fld2, fld3]⟩ : Typ).fields.length (⟨0, []⟩ : Cel)) 1 3 5) 1 3 3).getD 1 default).set) = [3, 5])) = true := (by decide +kernel)
 rw [hkn256]
 refine st (ov_pick_t (v := .bool true) rfl rfl ?_)
 refine st (ov_assign (v := .bool true) rfl ?_)
 refine st_nil ?_
 refine WP_ret ?_
 refine fin1 Tryd.results12 (show _ = (.bool true : Value) from rfl) ?_
 have hS257 : Sep G212 w206 ((RowE (α := Cel) own 42 v165 (doL (⟨[fld1, fld2, fld3]⟩ : Typ) (doL (⟨[fld1, fld2, fld3]⟩ : Typ) (List.replicate (⟨[fld1, fld2, fld3]⟩ : Typ).fields.length (⟨0, []⟩ : Cel)) 1 3 5) 1 3 3)) :: (RowE (α := Int) own 3 (.slice (some ⟨b241, 0, none⟩) 2 2) [3, 5]) :: (RowE (α := Cel) own 42 v143 (doL (⟨[fld1, fld2, fld3]⟩ : Typ) (List.replicate (⟨[fld1, fld2, fld3]⟩ : Typ).fields.length (⟨0, []⟩ : Cel)) 1 3 5)) :: (RowE (α := Cel) own 42 v34 (List.replicate (⟨[fld1, fld2, fld3]⟩ : Typ).fields.length (⟨0, []⟩ : Cel))) :: (Blk b28 ((⟨[fld1, fld2, fld3]⟩ : Typ).cells (.slice (some ⟨bf2, 0, none⟩) 3 3)).toArray 33) :: (Blk bt1 #[(.slice (some ⟨bf2, 0, none⟩) 3 3)] 33) :: Rs) w253 := hk225 _ _ hS255
 have hS258 : Sep G85 w80 ((RowE (α := Cel) own 42 v102 (doL (⟨[fld1, fld2, fld3]⟩ : Typ) (doL (⟨[fld1, fld2, fld3]⟩ : Typ) (List.replicate (⟨[fld1, fld2, fld3]⟩ : Typ).fields.length (⟨0, []⟩ : Cel)) 0 1 2) 2 5 0)) :: (RowE (α := Cel) own 42 v165 (doL (⟨[fld1, fld2, fld3]⟩ : Typ) (doL (⟨[fld1, fld2, fld3]⟩ : Typ) (List.replicate (⟨[fld1, fld2, fld3]⟩ : Typ).fields.length (⟨0, []⟩ : Cel)) 1 3 5) 1 3 3)) :: (RowE (α := Int) own 3 (.slice (some ⟨b241, 0, none⟩) 2 2) [3, 5]) :: (RowE (α := Cel) own 42 v143 (doL (⟨[fld1, fld2, fld3]⟩ : Typ) (List.replicate (⟨[fld1, fld2, fld3]⟩ : Typ).fields.length (⟨0, []⟩ : Cel)) 1 3 5)) :: (RowE (α := Cel) own 42 v34 (List.replicate (⟨[fld1, fld2, fld3]⟩ : Typ).fields.length (⟨0, []⟩ : Cel))) :: (Blk b28 ((⟨[fld1, fld2, fld3]⟩ : Typ).cells (.slice (some ⟨bf2, 0, none⟩) 3 3)).toArray 33) :: (Blk bt1 #[(.slice (some ⟨bf2, 0, none⟩) 3 3)] 33) :: Rs) w253 := hk217 _ _ hS257
 have hS259 : Sep G19 w4 ((RowE (α := Cel) own 42 v79 (doL (⟨[fld1, fld2, fld3]⟩ : Typ) (List.replicate (⟨[fld1, fld2, fld3]⟩ : Typ).fields.length (⟨0, []⟩ : Cel)) 0 1 2)) :: (RowE (α := Cel) own 42 v102 (doL (⟨[fld1, fld2, fld3]⟩ : Typ) (doL (⟨[fld1, fld2, fld3]⟩ : Typ) (List.replicate (⟨[fld1, fld2, fld3]⟩ : Typ).fields.length (⟨0, []⟩ : Cel)) 0 1 2) 2 5 0)) :: (RowE (α := Cel) own 42 v165 (doL (⟨[fld1, fld2, fld3]⟩ : Typ) (doL (⟨[fld1, fld2, fld3]⟩ : Typ) (List.replicate (⟨[fld1, fld2, fld3]⟩ : Typ).fields.length (⟨0, []⟩ : Cel)) 1 3 5) 1 3 3)) :: (RowE (α := Int) own 3 (.slice (some ⟨b241, 0, none⟩) 2 2) [3, 5]) :: (RowE (α := Cel) own 42 v143 (doL (⟨[fld1, fld2, fld3]⟩ : Typ) (List.replicate (⟨[fld1, fld2, fld3]⟩ : Typ).fields.length (⟨0, []⟩ : Cel)) 1 3 5)) :: (RowE (α := Cel) own 42 v34 (List.replicate (⟨[fld1, fld2, fld3]⟩ : Typ).fields.length (⟨0, []⟩ : Cel))) :: (Blk b28 ((⟨[fld1, fld2, fld3]⟩ : Typ).cells (.slice (some ⟨bf2, 0, none⟩) 3 3)).toArray 33) :: (Blk bt1 #[(.slice (some ⟨bf2, 0, none⟩) 3 3)] 33) :: Rs) w253 := hk90 _ _ hS258
 have hS260 : Sep G9 w4 ((RowE (α := Fld) (shr G9 w4) 79 (.slice (some ⟨bf2, 0, none⟩) 3 3) [fld1, fld2, fld3]) :: (RowE (α := Cel) own 42 v79 (doL (⟨[fld1, fld2, fld3]⟩ : Typ) (List.replicate (⟨[fld1, fld2, fld3]⟩ : Typ).fields.length (⟨0, []⟩ : Cel)) 0 1 2)) :: (RowE (α := Cel) own 42 v102 (doL (⟨[fld1, fld2, fld3]⟩ : Typ) (doL (⟨[fld1, fld2, fld3]⟩ : Typ) (List.replicate (⟨[fld1, fld2, fld3]⟩ : Typ).fields.length (⟨0, []⟩ : Cel)) 0 1 2) 2 5 0)) :: (RowE (α := Cel) own 42 v165 (doL (⟨[fld1, fld2, fld3]⟩ : Typ) (doL (⟨[fld1, fld2, fld3]⟩ : Typ) (List.replicate (⟨[fld1, fld2, fld3]⟩ : Typ).fields.length (⟨0, []⟩ : Cel)) 1 3 5) 1 3 3)) :: (RowE (α := Int) own 3 (.slice (some ⟨b241, 0, none⟩) 2 2) [3, 5]) :: (RowE (α := Cel) own 42 v143 (doL (⟨[fld1, fld2, fld3]⟩ : Typ) (List.replicate (⟨[fld1, fld2, fld3]⟩ : Typ).fields.length (⟨0, []⟩ : Cel)) 1 3 5)) :: (RowE (α := Cel) own 42 v34 (List.replicate (⟨[fld1, fld2, fld3]⟩ : Typ).fields.length (⟨0, []⟩ : Cel))) :: (Blk b28 ((⟨[fld1, fld2, fld3]⟩ : Typ).cells (.slice (some ⟨bf2, 0, none⟩) 3 3)).toArray 33) :: (Blk bt1 #[(.slice (some ⟨bf2, 0, none⟩) 3 3)] 33) :: Rs) w253 := hk24 _ _ hS259
 have hS261 : Sep G W ((RowE (α := Mv) own 115 (.slice (some ⟨bm3, 0, none⟩) 2 2) [(⟨0, 1, 0, 2⟩ : Mv), (⟨1, 0, -1, 0⟩ : Mv)]) :: (RowE (α := Fld) (shr G9 w4) 79 (.slice (some ⟨bf2, 0, none⟩) 3 3) [fld1, fld2, fld3]) :: (RowE (α := Cel) own 42 v79 (doL (⟨[fld1, fld2, fld3]⟩ : Typ) (List.replicate (⟨[fld1, fld2, fld3]⟩ : Typ).fields.length (⟨0, []⟩ : Cel)) 0 1 2)) :: (RowE (α := Cel) own 42 v102 (doL (⟨[fld1, fld2, fld3]⟩ : Typ) (doL (⟨[fld1, fld2, fld3]⟩ : Typ) (List.replicate (⟨[fld1, fld2, fld3]⟩ : Typ).fields.length (⟨0, []⟩ : Cel)) 0 1 2) 2 5 0)) :: (RowE (α := Cel) own 42 v165 (doL (⟨[fld1, fld2, fld3]⟩ : Typ) (doL (⟨[fld1, fld2, fld3]⟩ : Typ) (List.replicate (⟨[fld1, fld2, fld3]⟩ : Typ).fields.length (⟨0, []⟩ : Cel)) 1 3 5) 1 3 3)) :: (RowE (α := Int) own 3 (.slice (some ⟨b241, 0, none⟩) 2 2) [3, 5]) :: (RowE (α := Cel) own 42 v143 (doL (⟨[fld1, fld2, fld3]⟩ : Typ) (List.replicate (⟨[fld1, fld2, fld3]⟩ : Typ).fields.length (⟨0, []⟩ : Cel)) 1 3 5)) :: (RowE (α := Cel) own 42 v34 (List.replicate (⟨[fld1, fld2, fld3]⟩ : Typ).fields.length (⟨0, []⟩ : Cel))) :: (Blk b28 ((⟨[fld1, fld2, fld3]⟩ : Typ).cells (.slice (some ⟨bf2, 0, none⟩) 3 3)).toArray 33) :: (Blk bt1 #[(.slice (some ⟨bf2, 0, none⟩) 3 3)] 33) :: Rs) w253 := hk14 _ _ hS260
 have hS262 : Sep G W Rs w253 := hS261.sel 10 [] (Nat.le_add_left _ _) rfl rfl
 refine ⟨rfl, hS262⟩

end Go.Proofs.YtlblilbmpdejgaaDoor
