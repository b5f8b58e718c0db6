/- Steps of the proofs of this seat: part C17. -/
import Derived.Test.YtlblilbmpdejgaaDoorC15
set_option linter.unusedSimpArgs false
set_option linter.unusedVariables false
set_option maxRecDepth 8000
set_option maxHeartbeats 4000000
namespace Go.Proofs.YtlblilbmpdejgaaDoor
open Go.Proofs Go.RowKit

def fld1 : Fld := ⟨1, 1, true, []⟩
def fld2 : Fld := ⟨3, 1, false, []⟩
def mvs3 : List Mv := [⟨0, 1, 0, 2⟩, ⟨1, 0, -1, 0⟩]
def fld3 : Fld := ⟨4, 1, false, mvs3⟩
def typ3 : Typ := ⟨[fld1, fld2, fld3]⟩
instance (t : Typ) (c : List Cel) (f op arg : Int) : Decidable (AskOk t c f op arg) := by unfold AskOk Asc; infer_instance
theorem fld1_ok : fld1.Ok := ⟨by decide, by decide⟩
theorem fld2_ok : fld2.Ok := ⟨by decide, by decide⟩
theorem fld3_ok : fld3.Ok := ⟨by decide, by decide⟩
theorem typ3_ok : typ3.Ok := ⟨⟩
theorem D_three {G : Nat → Prop} {W w : World} {Rs : List HP}  (hS0 : Sep G W Rs w) : Ret Tryd.prog 47 [] w (fun r w' => ∃ (bt : Nat) (bf : Nat) (bm : Nat), r = (.agg #[(.slice (some ⟨bt, 0, none⟩) 1 1), .slice none 0 0] : Value) ∧ Sep G W ((Blk bt #[(.slice (some ⟨bf, 0, none⟩) 3 3)] 33) :: (Blk bf #[.int .i64 (1), .int .i64 (1), .bool true, .slice none 0 0, .int .i64 (3), .int .i64 (1), .bool false, .slice none 0 0, .int .i64 (4), .int .i64 (1), .bool false, (.slice (some ⟨bm, 0, none⟩) 2 2)] 79) :: (Blk bm #[.int .i64 (0), .int .i64 (1), .int .i64 (0), .int .i64 (2), .int .i64 (1), .int .i64 (0), .int .i64 ((-1)), .int .i64 (0)] 115) :: Rs) w') := by
 refine Calls_of_WP (args := []) Tryd.func47 rfl rfl ?_
 refine WP_seq ?_
 refine WP_region0 (by kernel_rfl) (fun _ => ?_)
 refine st (ov_alloc Tryd.zeroValue25 ?_)
 intro w3 b2 hn1
 have hS4 : Sep G W ((Blk b2 #[(.slice none 0 0), (.slice none 0 0)] 25) :: Rs) w3 := hS0.new hn1
 refine st_nil ?_
 refine WP_seq ?_
 refine WP_region0 (by kernel_rfl) (fun _ => ?_)
 refine st (ov_build (parts' := [(0, .int .i64 (1)), (1, .int .i64 (1)), (2, .bool true)]) (v := .agg #[.int .i64 (1), .int .i64 (1), .bool true, (.slice none 0 0)]) rfl (by simp [Instr.build, Instr.fill, Ev.cells, go_sem, Mv.cells, Fld.cells, Typ.cells, Prj.cells, Dcl.cells, Cel.cells, AskR.cells, Ask.cells]) ?_)
 refine st (ov_build (parts' := [(0, .int .i64 (3)), (1, .int .i64 (1))]) (v := .agg #[.int .i64 (3), .int .i64 (1), .bool false, (.slice none 0 0)]) rfl (by simp [Instr.build, Instr.fill, Ev.cells, go_sem, Mv.cells, Fld.cells, Typ.cells, Prj.cells, Dcl.cells, Cel.cells, AskR.cells, Ask.cells]) ?_)
 have ok5 : Mv.Ok (⟨0, 1, 0, 2⟩ : Mv) := ⟨(show InR (0) from (by decide)), (show InR (1) from (by decide)), (show InR (0) from (by decide)), (show InR (2) from (by decide))⟩
 refine st (ov_build (parts' := [(0, .int .i64 (0)), (1, .int .i64 (1)), (2, .int .i64 (0)), (3, .int .i64 (2))]) (v := .agg ((⟨0, 1, 0, 2⟩ : Mv).cells).toArray) rfl (by simp [Instr.build, Instr.fill, Ev.cells, go_sem, Mv.cells, Fld.cells, Typ.cells, Prj.cells, Dcl.cells, Cel.cells, AskR.cells, Ask.cells]) ?_)
 have ok6 : Mv.Ok (⟨1, 0, -1, 0⟩ : Mv) := ⟨(show InR (1) from (by decide)), (show InR (0) from (by decide)), (show InR (-1) from (by decide)), (show InR (0) from (by decide))⟩
 refine st (ov_build (parts' := [(0, .int .i64 (1)), (1, .int .i64 (0)), (2, .int .i64 (-1))]) (v := .agg ((⟨1, 0, -1, 0⟩ : Mv).cells).toArray) rfl (by simp [Instr.build, Instr.fill, Ev.cells, go_sem, Mv.cells, Fld.cells, Typ.cells, Prj.cells, Dcl.cells, Cel.cells, AskR.cells, Ask.cells]) ?_)
 refine st (ov_buildSlice (k := 4) (parts' := [(0, .agg ((⟨0, 1, 0, 2⟩ : Mv).cells).toArray), (1, .agg ((⟨1, 0, -1, 0⟩ : Mv).cells).toArray)]) (c := #[.int .i64 (0), .int .i64 (1), .int .i64 (0), .int .i64 (2), .int .i64 (1), .int .i64 (0), .int .i64 (-1), .int .i64 (0)]) Tryd.underlying77 Tryd.sizeOf115 Tryd.zeroValue115 (by decide) rfl (by kernel_rfl) ?_)
 intro w9 b8 hn7
 have hS10 : Sep G W ((Blk b8 #[.int .i64 (0), .int .i64 (1), .int .i64 (0), .int .i64 (2), .int .i64 (1), .int .i64 (0), .int .i64 (-1), .int .i64 (0)] 115) :: (Blk b2 #[(.slice none 0 0), (.slice none 0 0)] 25) :: Rs) w9 := hS4.new hn7
 refine st (ov_build (parts' := [(0, .int .i64 (4)), (1, .int .i64 (1)), (3, (.slice (some ⟨b8, 0, none⟩) 2 2))]) (v := .agg #[.int .i64 (4), .int .i64 (1), .bool false, (.slice (some ⟨b8, 0, none⟩) 2 2)]) rfl (by simp [Instr.build, Instr.fill, Ev.cells, go_sem, Mv.cells, Fld.cells, Typ.cells, Prj.cells, Dcl.cells, Cel.cells, AskR.cells, Ask.cells]) ?_)
 refine st (ov_buildSlice (k := 4) (parts' := [(0, .agg #[.int .i64 (1), .int .i64 (1), .bool true, (.slice none 0 0)]), (1, .agg #[.int .i64 (3), .int .i64 (1), .bool false, (.slice none 0 0)]), (2, .agg #[.int .i64 (4), .int .i64 (1), .bool false, (.slice (some ⟨b8, 0, none⟩) 2 2)])]) (c := #[.int .i64 (1), .int .i64 (1), .bool true, (.slice none 0 0), .int .i64 (3), .int .i64 (1), .bool false, (.slice none 0 0), .int .i64 (4), .int .i64 (1), .bool false, (.slice (some ⟨b8, 0, none⟩) 2 2)]) Tryd.underlying31 Tryd.sizeOf79 Tryd.zeroValue79 (by decide) rfl (by kernel_rfl) ?_)
 intro w13 b12 hn11
 have hS14 : Sep G W ((Blk b12 #[.int .i64 (1), .int .i64 (1), .bool true, (.slice none 0 0), .int .i64 (3), .int .i64 (1), .bool false, (.slice none 0 0), .int .i64 (4), .int .i64 (1), .bool false, (.slice (some ⟨b8, 0, none⟩) 2 2)] 79) :: (Blk b8 #[.int .i64 (0), .int .i64 (1), .int .i64 (0), .int .i64 (2), .int .i64 (1), .int .i64 (0), .int .i64 (-1), .int .i64 (0)] 115) :: (Blk b2 #[(.slice none 0 0), (.slice none 0 0)] 25) :: Rs) w13 := hS10.new hn11
 refine st (ov_build (parts' := [(0, (.slice (some ⟨b12, 0, none⟩) 3 3))]) (v := .agg #[(.slice (some ⟨b12, 0, none⟩) 3 3)]) rfl (by simp [Instr.build, Instr.fill, Ev.cells, go_sem, Mv.cells, Fld.cells, Typ.cells, Prj.cells, Dcl.cells, Cel.cells, AskR.cells, Ask.cells]) ?_)
 refine st (ov_buildSlice (k := 1) (parts' := [(0, .agg #[(.slice (some ⟨b12, 0, none⟩) 3 3)])]) (c := #[(.slice (some ⟨b12, 0, none⟩) 3 3)]) Tryd.underlying22 Tryd.sizeOf33 Tryd.zeroValue33 (by decide) rfl (by kernel_rfl) ?_)
 intro w17 b16 hn15
 have hS18 : Sep G W ((Blk b16 #[(.slice (some ⟨b12, 0, none⟩) 3 3)] 33) :: (Blk b12 #[.int .i64 (1), .int .i64 (1), .bool true, (.slice none 0 0), .int .i64 (3), .int .i64 (1), .bool false, (.slice none 0 0), .int .i64 (4), .int .i64 (1), .bool false, (.slice (some ⟨b8, 0, none⟩) 2 2)] 79) :: (Blk b8 #[.int .i64 (0), .int .i64 (1), .int .i64 (0), .int .i64 (2), .int .i64 (1), .int .i64 (0), .int .i64 (-1), .int .i64 (0)] 115) :: (Blk b2 #[(.slice none 0 0), (.slice none 0 0)] 25) :: Rs) w17 := hS14.new hn15
 refine st (ov_build (parts' := [(0, (.slice (some ⟨b16, 0, none⟩) 1 1))]) (v := .agg #[(.slice (some ⟨b16, 0, none⟩) 1 1), (.slice none 0 0)]) rfl (by simp [Instr.build, Instr.fill, Ev.cells, go_sem, Mv.cells, Fld.cells, Typ.cells, Prj.cells, Dcl.cells, Cel.cells, AskR.cells, Ask.cells]) ?_)
 refine stn (ov_store (v := .agg #[(.slice (some ⟨b16, 0, none⟩) 1 1), (.slice none 0 0)]) (c' := #[(.slice (some ⟨b16, 0, none⟩) 1 1), (.slice none 0 0)]) Tryd.sizeOf25 rfl rfl (hS18.blk (i := 3) rfl) (all1 ⟨rfl, rfl, trivial⟩) (Nat.le_of_ble_eq_true rfl) rfl ?_)
 intro w19 hp20
 have hS21 : Sep G W ((Blk b16 #[(.slice (some ⟨b12, 0, none⟩) 3 3)] 33) :: (Blk b12 #[.int .i64 (1), .int .i64 (1), .bool true, (.slice none 0 0), .int .i64 (3), .int .i64 (1), .bool false, (.slice none 0 0), .int .i64 (4), .int .i64 (1), .bool false, (.slice (some ⟨b8, 0, none⟩) 2 2)] 79) :: (Blk b8 #[.int .i64 (0), .int .i64 (1), .int .i64 (0), .int .i64 (2), .int .i64 (1), .int .i64 (0), .int .i64 (-1), .int .i64 (0)] 115) :: (Blk b2 #[(.slice (some ⟨b16, 0, none⟩) 1 1), (.slice none 0 0)] 25) :: Rs) w19 := hS18.put (i := 3) rfl hp20
 refine st_nil ?_
 refine WP_ret ?_
 refine finc (b := b2) Tryd.results47 Tryd.isAgg25 Tryd.sizeOf25 rfl rfl (CellsAt.all (hS21.blk (i := 3) rfl)) ?_
 have hS22 : Sep G W ((Blk b16 #[(.slice (some ⟨b12, 0, none⟩) 3 3)] 33) :: (Blk b12 #[.int .i64 (1), .int .i64 (1), .bool true, (.slice none 0 0), .int .i64 (3), .int .i64 (1), .bool false, (.slice none 0 0), .int .i64 (4), .int .i64 (1), .bool false, (.slice (some ⟨b8, 0, none⟩) 2 2)] 79) :: (Blk b8 #[.int .i64 (0), .int .i64 (1), .int .i64 (0), .int .i64 (2), .int .i64 (1), .int .i64 (0), .int .i64 (-1), .int .i64 (0)] 115) :: Rs) w19 := hS21.sel 4 [0, 1, 2] (Nat.le_add_left _ _) rfl rfl
 refine ⟨b16, b12, b8, rfl, hS22⟩

end Go.Proofs.YtlblilbmpdejgaaDoor
