/- Texts of this claim, part 13. -/
import Derived.Test.YtmiihhbeclhaoaaU12
set_option linter.unusedSimpArgs false
set_option linter.unusedVariables false
set_option linter.unusedSectionVars false
section
/- Steps of the proofs of this seat: part E1. -/
set_option linter.unusedSimpArgs false
set_option linter.unusedVariables false
set_option maxRecDepth 8000
set_option maxHeartbeats 4000000
namespace Go.Proofs.Ytmiihhbeclhaoaa
open Go.Proofs Go.RowKit

def evO : Ev := ⟨0, 1, 1, [0, 0], 0, 0, 0, 1, 1, 0⟩
def evT : Ev := ⟨1, 1, 2, [1, 0], 0, 0, 0, 1, 1, 0⟩
theorem evO_ok : evO.Ok := by constructor <;> decide
theorem evT_ok : evT.Ok := by constructor <;> decide
theorem kb1 : bAddL (max 0 (min 5 256)) [] evT = [evT] := by decide +kernel
theorem kb2 : bAddL (max 0 (min 5 256)) [evT] evT = [evT] := by decide +kernel
theorem kb3 : rdyO 2 [] ([evT].filter fun x => !hadE [] x) = [] := by decide +kernel
theorem kb4 : rdyB 2 [] ([evT].filter fun x => !hadE [] x) = [evT] := by decide +kernel
theorem kb5 : bAddL (max 0 (min 5 256)) [evT] evO = [evO, evT] := by decide +kernel
theorem kb6 : rdyO 2 [] ([evO, evT].filter fun x => !hadE [] x) = [evO, evT] := by decide +kernel
theorem kb7 : rdyB 2 [] ([evO, evT].filter fun x => !hadE [] x) = [] := by decide +kernel
theorem srt1 {e : Ev} : Srt [e] := List.pairwise_singleton _ _
theorem D_one {G : Nat → Prop} {W w : World} {Rs : List HP}  (hS0 : Sep G W Rs w) : Ret Try.prog 34 [] w (fun r w' => ∃ (v : Value), r = (.agg (evO.cells v).toArray : Value) ∧ Sep G W ((RowE (α := Int) own 3 v evO.deps) :: Rs) w') := by
 refine Calls_of_WP (args := []) Try.func34 rfl rfl ?_
 refine WP_seq ?_
 refine WP_region0 (by kernel_rfl) (fun _ => ?_)
 refine st (ov_alloc Try.zeroValue36 ?_)
 intro w3 b2 hn1
 have hS4 : Sep G W ((Blk b2 #[.int .i64 (0), .int .i64 (0), .int .i64 (0), (.slice none 0 0), .int .i64 (0), .int .i64 (0), .int .i64 (0), .int .i64 (0), .int .i64 (0), .int .i64 (0)] 36) :: Rs) w3 := hS0.new hn1
 refine st_nil ?_
 refine WP_seq ?_
 refine WP_region0 (by kernel_rfl) (fun _ => ?_)
 refine st (ov_build (parts' := [(0, .int .i64 (0)), (1, .int .i64 (1))]) (v := .agg #[.int .i64 (0), .int .i64 (1)]) rfl (by simp [Instr.build, Instr.fill, go_sem, Ev.cells]) ?_)
 refine st (ov_buildSlice (k := 1) (parts' := [(0, .int .i64 (0)), (1, .int .i64 (0))]) (c := #[.int .i64 (0), .int .i64 (0)]) Try.underlying34 Try.sizeOf3 Try.zeroValue3 (by decide) rfl (by kernel_rfl) ?_)
 intro w7 b6 hn5
 have hS8 : Sep G W ((Blk b6 #[.int .i64 (0), .int .i64 (0)] 3) :: (Blk b2 #[.int .i64 (0), .int .i64 (0), .int .i64 (0), (.slice none 0 0), .int .i64 (0), .int .i64 (0), .int .i64 (0), .int .i64 (0), .int .i64 (0), .int .i64 (0)] 36) :: Rs) w7 := hS4.new hn5
 have hS9 : Sep G W ((RowE (α := Int) own 3 (.slice (some ⟨b6, 0, none⟩) 2 2) [0, 0]) :: (Blk b2 #[.int .i64 (0), .int .i64 (0), .int .i64 (0), (.slice none 0 0), .int .i64 (0), .int .i64 (0), .int .i64 (0), .int .i64 (0), .int .i64 (0), .int .i64 (0)] 36) :: Rs) w7 := Sep.blkRow (src := own) (l := [0, 0]) (css := [[.int .i64 (0)], [.int .i64 (0)]]) hS8 rfl ⟨fun _ _ => ⟨rfl, (by decide)⟩, fun _ _ => ⟨rfl, (by decide)⟩, trivial⟩ (by first | decide | (simp only [List.length_cons, List.length_nil]; decide))
 have hr10 := hS9.row (i := 0) rfl
 have hr10s : [0, 0].length * 8 ≤ 140737488355328 := hr10.2
 have ok11 : Ev.Ok (⟨0, 1, 1, [0, 0], 0, 0, 0, 1, 1, 0⟩ : Ev) := ⟨(show InR (0) from (by decide)), (show InR (1) from (by decide)), (show InR (1) from (by decide)), (show InR (0) from (by decide)), (show InR (0) from (by decide)), (show InR (0) from (by decide)), (show InR (1) from (by decide)), (show InR (1) from (by decide)), (show InR (0) from (by decide))⟩
 refine st (ov_build (parts' := [(0, .agg #[.int .i64 (0), .int .i64 (1)]), (1, .int .i64 (1)), (2, (.slice (some ⟨b6, 0, none⟩) 2 2)), (6, .int .i64 (1)), (7, .int .i64 (1))]) (v := .agg ((⟨0, 1, 1, [0, 0], 0, 0, 0, 1, 1, 0⟩ : Ev).cells (.slice (some ⟨b6, 0, none⟩) 2 2)).toArray) rfl (by simp [Instr.build, Instr.fill, go_sem, Ev.cells]) ?_)
 refine stn (ov_store (v := .agg ((⟨0, 1, 1, [0, 0], 0, 0, 0, 1, 1, 0⟩ : Ev).cells (.slice (some ⟨b6, 0, none⟩) 2 2)).toArray) (c' := ((⟨0, 1, 1, [0, 0], 0, 0, 0, 1, 1, 0⟩ : Ev).cells (.slice (some ⟨b6, 0, none⟩) 2 2)).toArray) Try.sizeOf36 rfl rfl (hS9.blk (i := 1) rfl) (all1 ⟨rfl, rfl, rfl, rfl, rfl, rfl, rfl, rfl, rfl, rfl, trivial⟩) (Nat.le_of_ble_eq_true rfl) rfl ?_)
 intro w12 hp13
 have hS14 : Sep G W ((RowE (α := Int) own 3 (.slice (some ⟨b6, 0, none⟩) 2 2) [0, 0]) :: (Blk b2 ((⟨0, 1, 1, [0, 0], 0, 0, 0, 1, 1, 0⟩ : Ev).cells (.slice (some ⟨b6, 0, none⟩) 2 2)).toArray 36) :: Rs) w12 := hS9.put (i := 1) rfl hp13
 refine st_nil ?_
 refine WP_ret ?_
 refine finc (b := b2) Try.results34 Try.isAgg36 Try.sizeOf36 rfl rfl (CellsAt.all (hS14.blk (i := 1) rfl)) ?_
 have hS15 : Sep G W ((RowE (α := Int) own 3 (.slice (some ⟨b6, 0, none⟩) 2 2) [0, 0]) :: Rs) w12 := hS14.sel 2 [0] (Nat.le_add_left _ _) rfl rfl
 refine ⟨(.slice (some ⟨b6, 0, none⟩) 2 2), rfl, hS15⟩

theorem D_two {G : Nat → Prop} {W w : World} {Rs : List HP}  (hS0 : Sep G W Rs w) : Ret Try.prog 33 [] w (fun r w' => ∃ (v : Value), r = (.agg (evT.cells v).toArray : Value) ∧ Sep G W ((RowE (α := Int) own 3 v evT.deps) :: Rs) w') := by
 refine Calls_of_WP (args := []) Try.func33 rfl rfl ?_
 refine WP_seq ?_
 refine WP_region0 (by kernel_rfl) (fun _ => ?_)
 refine st (ov_alloc Try.zeroValue36 ?_)
 intro w3 b2 hn1
 have hS4 : Sep G W ((Blk b2 #[.int .i64 (0), .int .i64 (0), .int .i64 (0), (.slice none 0 0), .int .i64 (0), .int .i64 (0), .int .i64 (0), .int .i64 (0), .int .i64 (0), .int .i64 (0)] 36) :: Rs) w3 := hS0.new hn1
 refine st_nil ?_
 refine WP_seq ?_
 refine WP_region0 (by kernel_rfl) (fun _ => ?_)
 refine st (ov_build (parts' := [(0, .int .i64 (1)), (1, .int .i64 (1))]) (v := .agg #[.int .i64 (1), .int .i64 (1)]) rfl (by simp [Instr.build, Instr.fill, go_sem, Ev.cells]) ?_)
 refine st (ov_buildSlice (k := 1) (parts' := [(0, .int .i64 (1)), (1, .int .i64 (0))]) (c := #[.int .i64 (1), .int .i64 (0)]) Try.underlying34 Try.sizeOf3 Try.zeroValue3 (by decide) rfl (by kernel_rfl) ?_)
 intro w7 b6 hn5
 have hS8 : Sep G W ((Blk b6 #[.int .i64 (1), .int .i64 (0)] 3) :: (Blk b2 #[.int .i64 (0), .int .i64 (0), .int .i64 (0), (.slice none 0 0), .int .i64 (0), .int .i64 (0), .int .i64 (0), .int .i64 (0), .int .i64 (0), .int .i64 (0)] 36) :: Rs) w7 := hS4.new hn5
 have hS9 : Sep G W ((RowE (α := Int) own 3 (.slice (some ⟨b6, 0, none⟩) 2 2) [1, 0]) :: (Blk b2 #[.int .i64 (0), .int .i64 (0), .int .i64 (0), (.slice none 0 0), .int .i64 (0), .int .i64 (0), .int .i64 (0), .int .i64 (0), .int .i64 (0), .int .i64 (0)] 36) :: Rs) w7 := Sep.blkRow (src := own) (l := [1, 0]) (css := [[.int .i64 (1)], [.int .i64 (0)]]) hS8 rfl ⟨fun _ _ => ⟨rfl, (by decide)⟩, fun _ _ => ⟨rfl, (by decide)⟩, trivial⟩ (by first | decide | (simp only [List.length_cons, List.length_nil]; decide))
 have hr10 := hS9.row (i := 0) rfl
 have hr10s : [1, 0].length * 8 ≤ 140737488355328 := hr10.2
 have ok11 : Ev.Ok (⟨1, 1, 2, [1, 0], 0, 0, 0, 1, 1, 0⟩ : Ev) := ⟨(show InR (1) from (by decide)), (show InR (1) from (by decide)), (show InR (2) from (by decide)), (show InR (0) from (by decide)), (show InR (0) from (by decide)), (show InR (0) from (by decide)), (show InR (1) from (by decide)), (show InR (1) from (by decide)), (show InR (0) from (by decide))⟩
 refine st (ov_build (parts' := [(0, .agg #[.int .i64 (1), .int .i64 (1)]), (1, .int .i64 (2)), (2, (.slice (some ⟨b6, 0, none⟩) 2 2)), (6, .int .i64 (1)), (7, .int .i64 (1))]) (v := .agg ((⟨1, 1, 2, [1, 0], 0, 0, 0, 1, 1, 0⟩ : Ev).cells (.slice (some ⟨b6, 0, none⟩) 2 2)).toArray) rfl (by simp [Instr.build, Instr.fill, go_sem, Ev.cells]) ?_)
 refine stn (ov_store (v := .agg ((⟨1, 1, 2, [1, 0], 0, 0, 0, 1, 1, 0⟩ : Ev).cells (.slice (some ⟨b6, 0, none⟩) 2 2)).toArray) (c' := ((⟨1, 1, 2, [1, 0], 0, 0, 0, 1, 1, 0⟩ : Ev).cells (.slice (some ⟨b6, 0, none⟩) 2 2)).toArray) Try.sizeOf36 rfl rfl (hS9.blk (i := 1) rfl) (all1 ⟨rfl, rfl, rfl, rfl, rfl, rfl, rfl, rfl, rfl, rfl, trivial⟩) (Nat.le_of_ble_eq_true rfl) rfl ?_)
 intro w12 hp13
 have hS14 : Sep G W ((RowE (α := Int) own 3 (.slice (some ⟨b6, 0, none⟩) 2 2) [1, 0]) :: (Blk b2 ((⟨1, 1, 2, [1, 0], 0, 0, 0, 1, 1, 0⟩ : Ev).cells (.slice (some ⟨b6, 0, none⟩) 2 2)).toArray 36) :: Rs) w12 := hS9.put (i := 1) rfl hp13
 refine st_nil ?_
 refine WP_ret ?_
 refine finc (b := b2) Try.results33 Try.isAgg36 Try.sizeOf36 rfl rfl (CellsAt.all (hS14.blk (i := 1) rfl)) ?_
 have hS15 : Sep G W ((RowE (α := Int) own 3 (.slice (some ⟨b6, 0, none⟩) 2 2) [1, 0]) :: Rs) w12 := hS14.sel 2 [0] (Nat.le_add_left _ _) rfl rfl
 refine ⟨(.slice (some ⟨b6, 0, none⟩) 2 2), rfl, hS15⟩

theorem D_known25 {G : Nat → Prop} {W w : World} {Rs : List HP}  (hS0 : Sep G W Rs w) : Ret Try.prog 9 [] w (fun r w' => r = (.bool true : Value) ∧ Sep G W Rs w') := by
 refine Calls_of_WP (args := []) Try.func9 rfl rfl ?_
 refine WP_seq ?_
 refine WP_region0 (by kernel_rfl) (fun _ => ?_)
 refine st (ov_assign (v := .bool false) rfl ?_)
 refine st_nil ?_
 refine WP_seq ?_
 refine WP_region0 (by kernel_rfl) (fun _ => ?_)
 refine st (ov_call (f := 12) (vals := [.int .i64 (5)]) (cap := []) (show _ = (.func (.func 12) #[] #[] : Value) from rfl) rfl Try.call12 (D_bNew (x := 5) (by decide) hS0) ?_)
 rintro _ w2 ⟨b1, rfl, hS3⟩
 refine st (ov_assign (v := .pointer (some ⟨b1, 0, none⟩)) rfl ?_)
 refine st_nil ?_
 refine WP_seq ?_
 refine WP_region0 (by kernel_rfl) (fun _ => ?_)
 refine st (ov_call (f := 11) (vals := [.int .i64 (2)]) (cap := []) (show _ = (.func (.func 11) #[] #[] : Value) from rfl) rfl Try.call11 (D_NewSet (n := 2) (by first | omega | (refine ⟨?_, ?_⟩ <;> omega)) hS3) ?_)
 rintro _ w5 ⟨b4, rfl, hS6⟩
 refine st (ov_assign (v := .pointer (some ⟨b4, 0, none⟩)) rfl ?_)
 refine st_nil ?_
 refine WP_seq ?_
 refine WP_seq ?_
 refine WP_region (by kernel_rfl) ?_
 refine st (ov_move (v := .pointer (some ⟨b1, 0, none⟩)) rfl ?_)
 refine st (ov_eqlPtr (b := b1) (o := 0) Try.underlying28 rfl ?_)
 refine st (ov_move (v := .bool false) rfl ?_)
 refine sty rfl rfl (ov_move (v := .pointer (some ⟨b4, 0, none⟩)) rfl ?_)
 refine sty rfl rfl (ov_eqlPtr (b := b4) (o := 0) Try.underlying26 rfl ?_)
 refine st (ov_pick_f (v := .bool false) rfl rfl ?_)
 refine st (ov_move (v := .bool false) rfl ?_)
 refine sty rfl rfl (ov_move (v := .pointer (some ⟨b1, 0, none⟩)) rfl ?_)
 refine sty rfl rfl (ov_call (f := 33) (vals := []) (cap := []) (show _ = (.func (.func 33) #[] #[] : Value) from rfl) rfl Try.call33 (D_two  hS6) ?_)
 rintro _ w8 ⟨v7, rfl, hS9⟩
 have hr10 := hS9.row (i := 0) rfl
 have hr10s : evT.deps.length * 8 ≤ 140737488355328 := hr10.2
 obtain ⟨G11, hA13, hB14, hS15, hk16⟩ := hS9.lend
 have hrd17 := RowE.rd hA13
 have hrd17s : evT.deps.length * 8 ≤ 140737488355328 := hrd17.small
 have hS18 : Sep G11 w8 ((BufO b1 (max 0 (min 5 256)) ([] : List Ev)) :: (SetO b4 2 ([] : List Ev)) :: Rs) w8 := hS15.sel 2 [1, 0] (Nat.le_add_left _ _) rfl rfl
 refine sty rfl rfl (ov_call (f := 14) (vals := [.pointer (some ⟨b1, 0, none⟩), .agg (evT.cells v7).toArray]) (cap := []) (show _ = (.func (.func 14) #[] #[] : Value) from rfl) rfl Try.call14 (D_bAddL (e := evT) hrd17 evT_ok hS18 (by decide) (by first | exact List.Pairwise.nil | exact srt1) (by decide)) ?_)
 rintro _ w19 ⟨rfl, hS20⟩
 have hS21 : Sep G W ((RowE (α := Int) own 3 v7 evT.deps) :: (BufO b1 (max 0 (min 5 256)) (bAddL (max 0 (min 5 256)) ([] : List Ev) evT)) :: (SetO b4 2 ([] : List Ev)) :: Rs) w19 := hk16 _ _ hS20
 rw [kb1] at hS21
 have hS22 : Sep G W ((RowE (α := Int) own 3 v7 evT.deps) :: (BufO b1 (max 0 (min 5 256)) [evT]) :: (SetO b4 2 ([] : List Ev)) :: Rs) w19 := hS21
 have hkn23 : ((bAddB (max 0 (min 5 256)) ([] : List Ev) evT)) = true := (by decide +kernel)
 rw [hkn23]
 refine sty rfl rfl (ov_not (a := true) rfl ?_)
 refine st (ov_pick_f (v := .bool false) rfl rfl ?_)
 refine st (ov_move (v := .bool false) rfl ?_)
 refine sty rfl rfl (ov_move (v := .pointer (some ⟨b1, 0, none⟩)) rfl ?_)
 refine sty rfl rfl (ov_call (f := 33) (vals := []) (cap := []) (show _ = (.func (.func 33) #[] #[] : Value) from rfl) rfl Try.call33 (D_two  hS22) ?_)
 rintro _ w25 ⟨v24, rfl, hS26⟩
 have hr27 := hS26.row (i := 0) rfl
 have hr27s : evT.deps.length * 8 ≤ 140737488355328 := hr27.2
 obtain ⟨G28, hA30, hB31, hS32, hk33⟩ := hS26.lend
 have hrd34 := RowE.rd hA30
 have hrd34s : evT.deps.length * 8 ≤ 140737488355328 := hrd34.small
 have hS35 : Sep G28 w25 ((BufO b1 (max 0 (min 5 256)) [evT]) :: (RowE (α := Int) own 3 v7 evT.deps) :: (SetO b4 2 ([] : List Ev)) :: Rs) w25 := hS32.sel 3 [1, 0, 2] (Nat.le_add_left _ _) rfl rfl
 refine sty rfl rfl (ov_call (f := 14) (vals := [.pointer (some ⟨b1, 0, none⟩), .agg (evT.cells v24).toArray]) (cap := []) (show _ = (.func (.func 14) #[] #[] : Value) from rfl) rfl Try.call14 (D_bAddL (e := evT) hrd34 evT_ok hS35 (by decide) (by first | exact List.Pairwise.nil | exact srt1) (by decide)) ?_)
 rintro _ w36 ⟨rfl, hS37⟩
 have hS38 : Sep G W ((RowE (α := Int) own 3 v24 evT.deps) :: (BufO b1 (max 0 (min 5 256)) (bAddL (max 0 (min 5 256)) [evT] evT)) :: (RowE (α := Int) own 3 v7 evT.deps) :: (SetO b4 2 ([] : List Ev)) :: Rs) w36 := hk33 _ _ hS37
 rw [kb2] at hS38
 have hS39 : Sep G W ((RowE (α := Int) own 3 v24 evT.deps) :: (BufO b1 (max 0 (min 5 256)) [evT]) :: (RowE (α := Int) own 3 v7 evT.deps) :: (SetO b4 2 ([] : List Ev)) :: Rs) w36 := hS38
 have hkn40 : ((bAddB (max 0 (min 5 256)) [evT] evT)) = false := (by decide +kernel)
 rw [hkn40]
 refine st (ov_pick_f (v := .bool false) rfl rfl ?_)
 refine st (ov_move (v := .bool false) rfl ?_)
 refine sty rfl rfl (ov_move (v := .pointer (some ⟨b1, 0, none⟩)) rfl ?_)
 refine sty rfl rfl (ov_move (v := .pointer (some ⟨b4, 0, none⟩)) rfl ?_)
 have hS41 : Sep G W ((SetO b4 2 ([] : List Ev)) :: (RowE (α := Int) own 3 v24 evT.deps) :: (BufO b1 (max 0 (min 5 256)) [evT]) :: (RowE (α := Int) own 3 v7 evT.deps) :: Rs) w36 := hS39.sel 4 [3, 0, 1, 2] (Nat.le_add_left _ _) rfl rfl
 obtain ⟨G42, hA44, hB45, hS46, hk47⟩ := hS41.lend
 obtain ⟨vv48, m49, R50, hb51, hv52, hr53⟩ := SetO.sh hA44
 have hsm54 : (vecE 2 ([] : List Ev)).length * 8 ≤ 140737488355328 := hv52.small
 have hS55 : Sep G42 w36 ((BufO b1 (max 0 (min 5 256)) [evT]) :: (RowE (α := Int) own 3 v24 evT.deps) :: (RowE (α := Int) own 3 v7 evT.deps) :: Rs) w36 := hS46.sel 3 [1, 0, 2] (Nat.le_add_left _ _) rfl rfl
 refine sty rfl rfl (ov_call (f := 17) (vals := [.pointer (some ⟨b1, 0, none⟩), .pointer (some ⟨b4, 0, none⟩)]) (cap := []) (show _ = (.func (.func 17) #[] #[] : Value) from rfl) rfl Try.call17 (D_Ready  hA44 hS55 (by decide) (Good.nil) (by decide) (by decide)) ?_)
 rintro v56 w57 ⟨_, rfl, hS58⟩
 have hr59 := hS58.row (i := 0) rfl
 have hr59s : (rdyO 2 ([] : List Ev) ([evT].filter (fun x => !hadE ([] : List Ev) x))).length * 96 ≤ 140737488355328 := hr59.2
 have hS60 : Sep G W ((SetO b4 2 ([] : List Ev)) :: (RowE (α := Ev) own 36 v56 (rdyO 2 ([] : List Ev) ([evT].filter (fun x => !hadE ([] : List Ev) x)))) :: (BufO b1 (max 0 (min 5 256)) (rdyB 2 ([] : List Ev) ([evT].filter (fun x => !hadE ([] : List Ev) x)))) :: (RowE (α := Int) own 3 v24 evT.deps) :: (RowE (α := Int) own 3 v7 evT.deps) :: Rs) w57 := hk47 _ _ hS58
 rw [kb3] at hS60
 have hS61 : Sep G W ((SetO b4 2 ([] : List Ev)) :: (RowE (α := Ev) own 36 v56 ([] : List Ev)) :: (BufO b1 (max 0 (min 5 256)) (rdyB 2 ([] : List Ev) ([evT].filter (fun x => !hadE ([] : List Ev) x)))) :: (RowE (α := Int) own 3 v24 evT.deps) :: (RowE (α := Int) own 3 v7 evT.deps) :: Rs) w57 := hS60
 have hr62 := hS61.row (i := 1) rfl
 have hr62s : ([] : List Ev).length * 96 ≤ 140737488355328 := hr62.2
 rw [kb4] at hS61
 have hS63 : Sep G W ((SetO b4 2 ([] : List Ev)) :: (RowE (α := Ev) own 36 v56 ([] : List Ev)) :: (BufO b1 (max 0 (min 5 256)) [evT]) :: (RowE (α := Int) own 3 v24 evT.deps) :: (RowE (α := Int) own 3 v7 evT.deps) :: Rs) w57 := hS61
 refine sty rfl rfl (ov_len (n := ([] : List Ev).length) Try.underlying22 rfl hr62.1 ?_)
 refine sty rfl rfl (ov_neq (k := .i64) (a := ((([] : List Ev).length : Nat) : Int)) (b := 0) rfl rfl ?_)
 have hkn64 : (!decide (((([] : List Ev).length : Nat) : Int) = 0)) = false := (by decide)
 rw [hkn64]
 refine st (ov_pick_f (v := .bool false) rfl rfl ?_)
 refine st (ov_move (v := .bool false) rfl ?_)
 refine sty rfl rfl (ov_move (v := .pointer (some ⟨b1, 0, none⟩)) rfl ?_)
 refine sty rfl rfl (ov_call (f := 34) (vals := []) (cap := []) (show _ = (.func (.func 34) #[] #[] : Value) from rfl) rfl Try.call34 (D_one  hS63) ?_)
 rintro _ w66 ⟨v65, rfl, hS67⟩
 have hr68 := hS67.row (i := 0) rfl
 have hr68s : evO.deps.length * 8 ≤ 140737488355328 := hr68.2
 obtain ⟨G69, hA71, hB72, hS73, hk74⟩ := hS67.lend
 have hrd75 := RowE.rd hA71
 have hrd75s : evO.deps.length * 8 ≤ 140737488355328 := hrd75.small
 have hS76 : Sep G69 w66 ((BufO b1 (max 0 (min 5 256)) [evT]) :: (SetO b4 2 ([] : List Ev)) :: (RowE (α := Ev) own 36 v56 ([] : List Ev)) :: (RowE (α := Int) own 3 v24 evT.deps) :: (RowE (α := Int) own 3 v7 evT.deps) :: Rs) w66 := hS73.sel 5 [2, 0, 1, 3, 4] (Nat.le_add_left _ _) rfl rfl
 refine sty rfl rfl (ov_call (f := 14) (vals := [.pointer (some ⟨b1, 0, none⟩), .agg (evO.cells v65).toArray]) (cap := []) (show _ = (.func (.func 14) #[] #[] : Value) from rfl) rfl Try.call14 (D_bAddL (e := evO) hrd75 evO_ok hS76 (by decide) (by first | exact List.Pairwise.nil | exact srt1) (by decide)) ?_)
 rintro _ w77 ⟨rfl, hS78⟩
 have hS79 : Sep G W ((RowE (α := Int) own 3 v65 evO.deps) :: (BufO b1 (max 0 (min 5 256)) (bAddL (max 0 (min 5 256)) [evT] evO)) :: (SetO b4 2 ([] : List Ev)) :: (RowE (α := Ev) own 36 v56 ([] : List Ev)) :: (RowE (α := Int) own 3 v24 evT.deps) :: (RowE (α := Int) own 3 v7 evT.deps) :: Rs) w77 := hk74 _ _ hS78
 rw [kb5] at hS79
 have hS80 : Sep G W ((RowE (α := Int) own 3 v65 evO.deps) :: (BufO b1 (max 0 (min 5 256)) [evO, evT]) :: (SetO b4 2 ([] : List Ev)) :: (RowE (α := Ev) own 36 v56 ([] : List Ev)) :: (RowE (α := Int) own 3 v24 evT.deps) :: (RowE (α := Int) own 3 v7 evT.deps) :: Rs) w77 := hS79
 have hkn81 : ((bAddB (max 0 (min 5 256)) [evT] evO)) = true := (by decide +kernel)
 rw [hkn81]
 refine sty rfl rfl (ov_not (a := true) rfl ?_)
 refine st (ov_pick_f (v := .bool false) rfl rfl ?_)
 refine st_nil ?_
 refine WP_cond_f rfl ?_
 refine WP_skip ?_
 refine WP_seq ?_
 refine WP_region0 (by kernel_rfl) (fun _ => ?_)
 refine st (ov_move (v := .pointer (some ⟨b1, 0, none⟩)) rfl ?_)
 refine st (ov_move (v := .pointer (some ⟨b4, 0, none⟩)) rfl ?_)
 have hS82 : Sep G W ((SetO b4 2 ([] : List Ev)) :: (RowE (α := Int) own 3 v65 evO.deps) :: (BufO b1 (max 0 (min 5 256)) [evO, evT]) :: (RowE (α := Ev) own 36 v56 ([] : List Ev)) :: (RowE (α := Int) own 3 v24 evT.deps) :: (RowE (α := Int) own 3 v7 evT.deps) :: Rs) w77 := hS80.sel 6 [2, 0, 1, 3, 4, 5] (Nat.le_add_left _ _) rfl rfl
 obtain ⟨G83, hA85, hB86, hS87, hk88⟩ := hS82.lend
 obtain ⟨vv89, m90, R91, hb92, hv93, hr94⟩ := SetO.sh hA85
 have hsm95 : (vecE 2 ([] : List Ev)).length * 8 ≤ 140737488355328 := hv93.small
 have hS96 : Sep G83 w77 ((BufO b1 (max 0 (min 5 256)) [evO, evT]) :: (RowE (α := Int) own 3 v65 evO.deps) :: (RowE (α := Ev) own 36 v56 ([] : List Ev)) :: (RowE (α := Int) own 3 v24 evT.deps) :: (RowE (α := Int) own 3 v7 evT.deps) :: Rs) w77 := hS87.sel 5 [1, 0, 2, 3, 4] (Nat.le_add_left _ _) rfl rfl
 refine st (ov_call (f := 17) (vals := [.pointer (some ⟨b1, 0, none⟩), .pointer (some ⟨b4, 0, none⟩)]) (cap := []) (show _ = (.func (.func 17) #[] #[] : Value) from rfl) rfl Try.call17 (D_Ready  hA85 hS96 (by decide) (Good.nil) (by decide) (by decide)) ?_)
 rintro v97 w98 ⟨_, rfl, hS99⟩
 have hr100 := hS99.row (i := 0) rfl
 have hr100s : (rdyO 2 ([] : List Ev) ([evO, evT].filter (fun x => !hadE ([] : List Ev) x))).length * 96 ≤ 140737488355328 := hr100.2
 have hS101 : Sep G W ((SetO b4 2 ([] : List Ev)) :: (RowE (α := Ev) own 36 v97 (rdyO 2 ([] : List Ev) ([evO, evT].filter (fun x => !hadE ([] : List Ev) x)))) :: (BufO b1 (max 0 (min 5 256)) (rdyB 2 ([] : List Ev) ([evO, evT].filter (fun x => !hadE ([] : List Ev) x)))) :: (RowE (α := Int) own 3 v65 evO.deps) :: (RowE (α := Ev) own 36 v56 ([] : List Ev)) :: (RowE (α := Int) own 3 v24 evT.deps) :: (RowE (α := Int) own 3 v7 evT.deps) :: Rs) w98 := hk88 _ _ hS99
 rw [kb6] at hS101
 have hS102 : Sep G W ((SetO b4 2 ([] : List Ev)) :: (RowE (α := Ev) own 36 v97 [evO, evT]) :: (BufO b1 (max 0 (min 5 256)) (rdyB 2 ([] : List Ev) ([evO, evT].filter (fun x => !hadE ([] : List Ev) x)))) :: (RowE (α := Int) own 3 v65 evO.deps) :: (RowE (α := Ev) own 36 v56 ([] : List Ev)) :: (RowE (α := Int) own 3 v24 evT.deps) :: (RowE (α := Int) own 3 v7 evT.deps) :: Rs) w98 := hS101
 have hr103 := hS102.row (i := 1) rfl
 have hr103s : [evO, evT].length * 96 ≤ 140737488355328 := hr103.2
 rw [kb7] at hS102
 have hS104 : Sep G W ((SetO b4 2 ([] : List Ev)) :: (RowE (α := Ev) own 36 v97 [evO, evT]) :: (BufO b1 (max 0 (min 5 256)) ([] : List Ev)) :: (RowE (α := Int) own 3 v65 evO.deps) :: (RowE (α := Ev) own 36 v56 ([] : List Ev)) :: (RowE (α := Int) own 3 v24 evT.deps) :: (RowE (α := Int) own 3 v7 evT.deps) :: Rs) w98 := hS102
 refine st (ov_assign (v := v97) rfl ?_)
 refine st_nil ?_
 refine WP_seq ?_
 refine WP_region (by kernel_rfl) ?_
 refine st (ov_move (v := v97) rfl ?_)
 refine st (ov_call (f := 34) (vals := []) (cap := []) (show _ = (.func (.func 34) #[] #[] : Value) from rfl) rfl Try.call34 (D_one  hS104) ?_)
 rintro _ w106 ⟨v105, rfl, hS107⟩
 have hr108 := hS107.row (i := 0) rfl
 have hr108s : evO.deps.length * 8 ≤ 140737488355328 := hr108.2
 refine st (ov_call (f := 33) (vals := []) (cap := []) (show _ = (.func (.func 33) #[] #[] : Value) from rfl) rfl Try.call33 (D_two  hS107) ?_)
 rintro _ w110 ⟨v109, rfl, hS111⟩
 have hr112 := hS111.row (i := 0) rfl
 have hr112s : evT.deps.length * 8 ≤ 140737488355328 := hr112.2
 refine st (ov_buildSlice (k := 10) (parts' := [(0, .agg (evO.cells v105).toArray), (1, .agg (evT.cells v109).toArray)]) (c := #[.int .i64 (evO.origin), .int .i64 (evO.seq), .int .i64 (evO.lam), v105, .int .i64 (evO.typ), .int .i64 (evO.agg), .int .i64 (evO.field), .int .i64 (evO.op), .int .i64 (evO.arg), .int .i64 (evO.key), .int .i64 (evT.origin), .int .i64 (evT.seq), .int .i64 (evT.lam), v109, .int .i64 (evT.typ), .int .i64 (evT.agg), .int .i64 (evT.field), .int .i64 (evT.op), .int .i64 (evT.arg), .int .i64 (evT.key)]) Try.underlying22 Try.sizeOf36 Try.zeroValue36 (by decide) rfl (by kernel_rfl) ?_)
 intro w115 b114 hn113
 have hS116 : Sep G W ((Blk b114 #[.int .i64 (evO.origin), .int .i64 (evO.seq), .int .i64 (evO.lam), v105, .int .i64 (evO.typ), .int .i64 (evO.agg), .int .i64 (evO.field), .int .i64 (evO.op), .int .i64 (evO.arg), .int .i64 (evO.key), .int .i64 (evT.origin), .int .i64 (evT.seq), .int .i64 (evT.lam), v109, .int .i64 (evT.typ), .int .i64 (evT.agg), .int .i64 (evT.field), .int .i64 (evT.op), .int .i64 (evT.arg), .int .i64 (evT.key)] 36) :: (RowE (α := Int) own 3 v109 evT.deps) :: (RowE (α := Int) own 3 v105 evO.deps) :: (SetO b4 2 ([] : List Ev)) :: (RowE (α := Ev) own 36 v97 [evO, evT]) :: (BufO b1 (max 0 (min 5 256)) ([] : List Ev)) :: (RowE (α := Int) own 3 v65 evO.deps) :: (RowE (α := Ev) own 36 v56 ([] : List Ev)) :: (RowE (α := Int) own 3 v24 evT.deps) :: (RowE (α := Int) own 3 v7 evT.deps) :: Rs) w115 := hS111.new hn113
 have hS117 : Sep G W ((RowE (α := Int) own 3 v109 evT.deps) :: (Blk b114 #[.int .i64 (evO.origin), .int .i64 (evO.seq), .int .i64 (evO.lam), v105, .int .i64 (evO.typ), .int .i64 (evO.agg), .int .i64 (evO.field), .int .i64 (evO.op), .int .i64 (evO.arg), .int .i64 (evO.key), .int .i64 (evT.origin), .int .i64 (evT.seq), .int .i64 (evT.lam), v109, .int .i64 (evT.typ), .int .i64 (evT.agg), .int .i64 (evT.field), .int .i64 (evT.op), .int .i64 (evT.arg), .int .i64 (evT.key)] 36) :: (RowE (α := Int) own 3 v105 evO.deps) :: (SetO b4 2 ([] : List Ev)) :: (RowE (α := Ev) own 36 v97 [evO, evT]) :: (BufO b1 (max 0 (min 5 256)) ([] : List Ev)) :: (RowE (α := Int) own 3 v65 evO.deps) :: (RowE (α := Ev) own 36 v56 ([] : List Ev)) :: (RowE (α := Int) own 3 v24 evT.deps) :: (RowE (α := Int) own 3 v7 evT.deps) :: Rs) w115 := hS116.sel 10 [1, 0, 2, 3, 4, 5, 6, 7, 8, 9] (Nat.le_add_left _ _) rfl rfl
 obtain ⟨G118, hA120, hB121, hS122, hk123⟩ := hS117.lend
 have hrd124 := RowE.rd hA120
 have hrd124s : evT.deps.length * 8 ≤ 140737488355328 := hrd124.small
 have hS125 : Sep G118 w115 ((RowE (α := Int) own 3 v105 evO.deps) :: (Blk b114 #[.int .i64 (evO.origin), .int .i64 (evO.seq), .int .i64 (evO.lam), v105, .int .i64 (evO.typ), .int .i64 (evO.agg), .int .i64 (evO.field), .int .i64 (evO.op), .int .i64 (evO.arg), .int .i64 (evO.key), .int .i64 (evT.origin), .int .i64 (evT.seq), .int .i64 (evT.lam), v109, .int .i64 (evT.typ), .int .i64 (evT.agg), .int .i64 (evT.field), .int .i64 (evT.op), .int .i64 (evT.arg), .int .i64 (evT.key)] 36) :: (SetO b4 2 ([] : List Ev)) :: (RowE (α := Ev) own 36 v97 [evO, evT]) :: (BufO b1 (max 0 (min 5 256)) ([] : List Ev)) :: (RowE (α := Int) own 3 v65 evO.deps) :: (RowE (α := Ev) own 36 v56 ([] : List Ev)) :: (RowE (α := Int) own 3 v24 evT.deps) :: (RowE (α := Int) own 3 v7 evT.deps) :: Rs) w115 := hS122.sel 9 [1, 0, 2, 3, 4, 5, 6, 7, 8] (Nat.le_add_left _ _) rfl rfl
 obtain ⟨G126, hA128, hB129, hS130, hk131⟩ := hS125.lend
 have hrd132 := RowE.rd hA128
 have hrd132s : evO.deps.length * 8 ≤ 140737488355328 := hrd132.small
 have hS133 : Sep G126 w115 ((RowE (α := Int) own 3 v65 evO.deps) :: (Blk b114 #[.int .i64 (evO.origin), .int .i64 (evO.seq), .int .i64 (evO.lam), v105, .int .i64 (evO.typ), .int .i64 (evO.agg), .int .i64 (evO.field), .int .i64 (evO.op), .int .i64 (evO.arg), .int .i64 (evO.key), .int .i64 (evT.origin), .int .i64 (evT.seq), .int .i64 (evT.lam), v109, .int .i64 (evT.typ), .int .i64 (evT.agg), .int .i64 (evT.field), .int .i64 (evT.op), .int .i64 (evT.arg), .int .i64 (evT.key)] 36) :: (SetO b4 2 ([] : List Ev)) :: (RowE (α := Ev) own 36 v97 [evO, evT]) :: (BufO b1 (max 0 (min 5 256)) ([] : List Ev)) :: (RowE (α := Ev) own 36 v56 ([] : List Ev)) :: (RowE (α := Int) own 3 v24 evT.deps) :: (RowE (α := Int) own 3 v7 evT.deps) :: Rs) w115 := hS130.sel 8 [4, 0, 1, 2, 3, 5, 6, 7] (Nat.le_add_left _ _) rfl rfl
 obtain ⟨G134, hA136, hB137, hS138, hk139⟩ := hS133.lend
 have hrd140 := RowE.rd hA136
 have hrd140s : evO.deps.length * 8 ≤ 140737488355328 := hrd140.small
 have hS141 : Sep G134 w115 ((RowE (α := Int) own 3 v24 evT.deps) :: (Blk b114 #[.int .i64 (evO.origin), .int .i64 (evO.seq), .int .i64 (evO.lam), v105, .int .i64 (evO.typ), .int .i64 (evO.agg), .int .i64 (evO.field), .int .i64 (evO.op), .int .i64 (evO.arg), .int .i64 (evO.key), .int .i64 (evT.origin), .int .i64 (evT.seq), .int .i64 (evT.lam), v109, .int .i64 (evT.typ), .int .i64 (evT.agg), .int .i64 (evT.field), .int .i64 (evT.op), .int .i64 (evT.arg), .int .i64 (evT.key)] 36) :: (SetO b4 2 ([] : List Ev)) :: (RowE (α := Ev) own 36 v97 [evO, evT]) :: (BufO b1 (max 0 (min 5 256)) ([] : List Ev)) :: (RowE (α := Ev) own 36 v56 ([] : List Ev)) :: (RowE (α := Int) own 3 v7 evT.deps) :: Rs) w115 := hS138.sel 7 [5, 0, 1, 2, 3, 4, 6] (Nat.le_add_left _ _) rfl rfl
 obtain ⟨G142, hA144, hB145, hS146, hk147⟩ := hS141.lend
 have hrd148 := RowE.rd hA144
 have hrd148s : evT.deps.length * 8 ≤ 140737488355328 := hrd148.small
 have hS149 : Sep G142 w115 ((RowE (α := Int) own 3 v7 evT.deps) :: (Blk b114 #[.int .i64 (evO.origin), .int .i64 (evO.seq), .int .i64 (evO.lam), v105, .int .i64 (evO.typ), .int .i64 (evO.agg), .int .i64 (evO.field), .int .i64 (evO.op), .int .i64 (evO.arg), .int .i64 (evO.key), .int .i64 (evT.origin), .int .i64 (evT.seq), .int .i64 (evT.lam), v109, .int .i64 (evT.typ), .int .i64 (evT.agg), .int .i64 (evT.field), .int .i64 (evT.op), .int .i64 (evT.arg), .int .i64 (evT.key)] 36) :: (SetO b4 2 ([] : List Ev)) :: (RowE (α := Ev) own 36 v97 [evO, evT]) :: (BufO b1 (max 0 (min 5 256)) ([] : List Ev)) :: (RowE (α := Ev) own 36 v56 ([] : List Ev)) :: Rs) w115 := hS146.sel 6 [5, 0, 1, 2, 3, 4] (Nat.le_add_left _ _) rfl rfl
 obtain ⟨G150, hA152, hB153, hS154, hk155⟩ := hS149.lend
 have hrd156 := RowE.rd hA152
 have hrd156s : evT.deps.length * 8 ≤ 140737488355328 := hrd156.small
 have hS157 : Sep G150 w115 ((RowE (α := Ev) own 36 v97 [evO, evT]) :: (Blk b114 #[.int .i64 (evO.origin), .int .i64 (evO.seq), .int .i64 (evO.lam), v105, .int .i64 (evO.typ), .int .i64 (evO.agg), .int .i64 (evO.field), .int .i64 (evO.op), .int .i64 (evO.arg), .int .i64 (evO.key), .int .i64 (evT.origin), .int .i64 (evT.seq), .int .i64 (evT.lam), v109, .int .i64 (evT.typ), .int .i64 (evT.agg), .int .i64 (evT.field), .int .i64 (evT.op), .int .i64 (evT.arg), .int .i64 (evT.key)] 36) :: (SetO b4 2 ([] : List Ev)) :: (BufO b1 (max 0 (min 5 256)) ([] : List Ev)) :: (RowE (α := Ev) own 36 v56 ([] : List Ev)) :: Rs) w115 := hS154.sel 5 [2, 0, 1, 3, 4] (Nat.le_add_left _ _) rfl rfl
 obtain ⟨G158, hA160, hB161, hS162, hk163⟩ := hS157.lend
 have hrd164 := RowE.rd hA160
 have hrd164s : [evO, evT].length * 96 ≤ 140737488355328 := hrd164.small
 have hS165 : Sep G158 w115 ((RowE (α := Ev) (shr G158 w115) 36 (.slice (some ⟨b114, 0, none⟩) 2 2) [evO, evT]) :: (SetO b4 2 ([] : List Ev)) :: (BufO b1 (max 0 (min 5 256)) ([] : List Ev)) :: (RowE (α := Ev) own 36 v56 ([] : List Ev)) :: Rs) w115 := Sep.blkRow (src := (shr G158 w115)) (l := [evO, evT]) (css := [evO.cells v105, evT.cells v109]) hS162 rfl ⟨fun _ _ => ⟨_, rfl, (RdS.base (RdS.base (RdS.base (RdS.base hrd132 hB137) hB145) hB153) hB161), evO_ok⟩, fun _ _ => ⟨_, rfl, (RdS.base (RdS.base (RdS.base (RdS.base (RdS.base hrd124 hB129) hB137) hB145) hB153) hB161), evT_ok⟩, trivial⟩ (by first | decide | (simp only [List.length_cons, List.length_nil]; decide))
 have hr166 := hS165.row (i := 0) rfl
 have hr166s : [evO, evT].length * 96 ≤ 140737488355328 := hr166.2
 obtain ⟨G167, hA169, hB170, hS171, hk172⟩ := hS165.lend
 have hrd173 := RowE.rdB hA169 hB170
 have hrd173s : [evO, evT].length * 96 ≤ 140737488355328 := hrd173.small
 refine st (ov_call (f := 19) (vals := [v97, (.slice (some ⟨b114, 0, none⟩) 2 2)]) (cap := []) (show _ = (.func (.func 19) #[] #[] : Value) from rfl) rfl Try.call19 (D_sameEvents (a := [evO, evT]) (va := v97) (b := [evO, evT]) (vb := (.slice (some ⟨b114, 0, none⟩) 2 2)) (RdS.base hrd164 hB170) hrd173 hS171) ?_)
 rintro _ w174 ⟨rfl, hS175⟩
 have hS176 : Sep G158 w115 ((RowE (α := Ev) (shr G158 w115) 36 (.slice (some ⟨b114, 0, none⟩) 2 2) [evO, evT]) :: (SetO b4 2 ([] : List Ev)) :: (BufO b1 (max 0 (min 5 256)) ([] : List Ev)) :: (RowE (α := Ev) own 36 v56 ([] : List Ev)) :: Rs) w174 := hk172 _ _ hS175
 have hS177 : Sep G150 w115 ((RowE (α := Ev) own 36 v97 [evO, evT]) :: (RowE (α := Ev) (shr G158 w115) 36 (.slice (some ⟨b114, 0, none⟩) 2 2) [evO, evT]) :: (SetO b4 2 ([] : List Ev)) :: (BufO b1 (max 0 (min 5 256)) ([] : List Ev)) :: (RowE (α := Ev) own 36 v56 ([] : List Ev)) :: Rs) w174 := hk163 _ _ hS176
 have hS178 : Sep G150 w115 ((RowE (α := Ev) own 36 v97 [evO, evT]) :: (SetO b4 2 ([] : List Ev)) :: (BufO b1 (max 0 (min 5 256)) ([] : List Ev)) :: (RowE (α := Ev) own 36 v56 ([] : List Ev)) :: Rs) w174 := hS177.sel 5 [0, 2, 3, 4] (Nat.le_add_left _ _) rfl rfl
 have hkn179 : (decide ([evO, evT] = [evO, evT])) = true := (by decide +kernel)
 rw [hkn179]
 refine st (ov_move (v := .bool true) rfl ?_)
 refine sty rfl rfl (ov_move (v := .pointer (some ⟨b1, 0, none⟩)) rfl ?_)
 have hS180 : Sep G150 w115 ((BufO b1 (max 0 (min 5 256)) ([] : List Ev)) :: (RowE (α := Ev) own 36 v97 [evO, evT]) :: (SetO b4 2 ([] : List Ev)) :: (RowE (α := Ev) own 36 v56 ([] : List Ev)) :: Rs) w174 := hS178.sel 4 [2, 0, 1, 3] (Nat.le_add_left _ _) rfl rfl
 obtain ⟨G181, hA183, hB184, hS185, hk186⟩ := hS180.lend
 obtain ⟨vl187, hb188, hl189⟩ := BufO.sh hA183
 have hsm190 : ([] : List Ev).length * 96 ≤ 140737488355328 := hl189.small
 refine sty rfl rfl (ov_call (f := 18) (vals := [.pointer (some ⟨b1, 0, none⟩)]) (cap := []) (show _ = (.func (.func 18) #[] #[] : Value) from rfl) rfl Try.call18 (D_bLen  hA183 hS185) ?_)
 rintro _ w191 ⟨rfl, hS192⟩
 have hS193 : Sep G150 w115 ((BufO b1 (max 0 (min 5 256)) ([] : List Ev)) :: (RowE (α := Ev) own 36 v97 [evO, evT]) :: (SetO b4 2 ([] : List Ev)) :: (RowE (α := Ev) own 36 v56 ([] : List Ev)) :: Rs) w191 := hk186 _ _ hS192
 refine sty rfl rfl (ov_eql (k := .i64) (a := ((([] : List Ev).length : Nat) : Int)) (b := 0) rfl rfl ?_)
 have hkn194 : (decide (((([] : List Ev).length : Nat) : Int) = 0)) = true := (by decide)
 rw [hkn194]
 refine st (ov_pick_t (v := .bool true) rfl rfl ?_)
 refine st (ov_move (v := .bool true) rfl ?_)
 refine sty rfl rfl (ov_move (v := .pointer (some ⟨b4, 0, none⟩)) rfl ?_)
 have hS195 : Sep G150 w115 ((SetO b4 2 ([] : List Ev)) :: (BufO b1 (max 0 (min 5 256)) ([] : List Ev)) :: (RowE (α := Ev) own 36 v97 [evO, evT]) :: (RowE (α := Ev) own 36 v56 ([] : List Ev)) :: Rs) w191 := hS193.sel 4 [2, 0, 1, 3] (Nat.le_add_left _ _) rfl rfl
 obtain ⟨G196, hA198, hB199, hS200, hk201⟩ := hS195.lend
 obtain ⟨vv202, m203, R204, hb205, hv206, hr207⟩ := SetO.sh hA198
 have hsm208 : (vecE 2 ([] : List Ev)).length * 8 ≤ 140737488355328 := hv206.small
 refine sty rfl rfl (ov_call (f := 35) (vals := [.pointer (some ⟨b4, 0, none⟩)]) (cap := []) (show _ = (.func (.func 35) #[] #[] : Value) from rfl) rfl Try.call35 (D_Len  hA198 hS200 (by decide)) ?_)
 rintro _ w209 ⟨rfl, hS210⟩
 have hS211 : Sep G150 w115 ((SetO b4 2 ([] : List Ev)) :: (BufO b1 (max 0 (min 5 256)) ([] : List Ev)) :: (RowE (α := Ev) own 36 v97 [evO, evT]) :: (RowE (α := Ev) own 36 v56 ([] : List Ev)) :: Rs) w209 := hk201 _ _ hS210
 refine sty rfl rfl (ov_eql (k := .i64) (a := ((([] : List Ev).length : Nat) : Int)) (b := 0) rfl rfl ?_)
 have hkn212 : (decide (((([] : List Ev).length : Nat) : Int) = 0)) = true := (by decide)
 rw [hkn212]
 refine st (ov_pick_t (v := .bool true) rfl rfl ?_)
 refine st (ov_assign (v := .bool true) rfl ?_)
 refine st_nil ?_
 refine WP_ret ?_
 refine fin1 Try.results9 (show _ = (.bool true : Value) from rfl) ?_
 have hS213 : Sep G142 w115 ((RowE (α := Int) own 3 v7 evT.deps) :: (SetO b4 2 ([] : List Ev)) :: (BufO b1 (max 0 (min 5 256)) ([] : List Ev)) :: (RowE (α := Ev) own 36 v97 [evO, evT]) :: (RowE (α := Ev) own 36 v56 ([] : List Ev)) :: Rs) w209 := hk155 _ _ hS211
 have hS214 : Sep G134 w115 ((RowE (α := Int) own 3 v24 evT.deps) :: (RowE (α := Int) own 3 v7 evT.deps) :: (SetO b4 2 ([] : List Ev)) :: (BufO b1 (max 0 (min 5 256)) ([] : List Ev)) :: (RowE (α := Ev) own 36 v97 [evO, evT]) :: (RowE (α := Ev) own 36 v56 ([] : List Ev)) :: Rs) w209 := hk147 _ _ hS213
 have hS215 : Sep G126 w115 ((RowE (α := Int) own 3 v65 evO.deps) :: (RowE (α := Int) own 3 v24 evT.deps) :: (RowE (α := Int) own 3 v7 evT.deps) :: (SetO b4 2 ([] : List Ev)) :: (BufO b1 (max 0 (min 5 256)) ([] : List Ev)) :: (RowE (α := Ev) own 36 v97 [evO, evT]) :: (RowE (α := Ev) own 36 v56 ([] : List Ev)) :: Rs) w209 := hk139 _ _ hS214
 have hS216 : Sep G118 w115 ((RowE (α := Int) own 3 v105 evO.deps) :: (RowE (α := Int) own 3 v65 evO.deps) :: (RowE (α := Int) own 3 v24 evT.deps) :: (RowE (α := Int) own 3 v7 evT.deps) :: (SetO b4 2 ([] : List Ev)) :: (BufO b1 (max 0 (min 5 256)) ([] : List Ev)) :: (RowE (α := Ev) own 36 v97 [evO, evT]) :: (RowE (α := Ev) own 36 v56 ([] : List Ev)) :: Rs) w209 := hk131 _ _ hS215
 have hS217 : Sep G W ((RowE (α := Int) own 3 v109 evT.deps) :: (RowE (α := Int) own 3 v105 evO.deps) :: (RowE (α := Int) own 3 v65 evO.deps) :: (RowE (α := Int) own 3 v24 evT.deps) :: (RowE (α := Int) own 3 v7 evT.deps) :: (SetO b4 2 ([] : List Ev)) :: (BufO b1 (max 0 (min 5 256)) ([] : List Ev)) :: (RowE (α := Ev) own 36 v97 [evO, evT]) :: (RowE (α := Ev) own 36 v56 ([] : List Ev)) :: Rs) w209 := hk123 _ _ hS216
 have hS218 : Sep G W Rs w209 := hS217.sel 9 [] (Nat.le_add_left _ _) rfl rfl
 refine ⟨rfl, hS218⟩

end Go.Proofs.Ytmiihhbeclhaoaa
end

section
/- Steps of the proofs of this seat: part E2. -/
set_option linter.unusedSimpArgs false
set_option linter.unusedVariables false
set_option maxRecDepth 8000
set_option maxHeartbeats 4000000
namespace Go.Proofs.Ytmiihhbeclhaoaa
open Go.Proofs Go.RowKit

def evN (k : Nat) : Ev := ⟨1, ((k : Nat) : Int) + 1, 2, [1, 0], 0, 0, 0, 1, 1, 0⟩
theorem evN_ok {k : Nat} (h : k ≤ 1000) : (evN k).Ok := by constructor <;> first | (show InR (0 : Int); decide) | (show InR (1 : Int); decide) | (show InR (2 : Int); decide) | (show InR (((k : Nat) : Int) + 1); omega)
structure RoomI (m : Int) (k : Nat) (B : List Ev) : Prop where
  len : ((B.length : Nat) : Int) = min ((k : Nat) : Int) m
  srt : Srt B
  seq : ∀ x ∈ B, x.seq ≤ k
theorem RoomI.start {m : Int} (hm : 0 ≤ m) : RoomI m 0 [] := ⟨by show (0 : Int) = _; omega, List.Pairwise.nil, fun _ h => by simp at h⟩
theorem bAddB_eq {m : Int} {B : List Ev} {e : Ev} (h : hasId B e = false) : bAddB m B e = decide (((B.length : Nat) : Int) < m) := by
  unfold bAddB
  rw [h, Bool.or_false, Bool.eq_iff_iff]
  simp
theorem RoomI.step {m : Int} {k : Nat} {B : List Ev} (h : RoomI m k B) : bAddB m B (evN k) = decide (((k : Nat) : Int) < m) ∧ RoomI m (k + 1) (bAddL m B (evN k)) := by
  have hl := h.len
  have hh : hasId B (evN k) = false := by
    unfold hasId
    rw [List.any_eq_false]
    intro x hx he
    have h1 := h.seq x hx
    have h2 := sameId_iff.1 he
    unfold idE at h2
    have h3 : x.seq = ((k : Nat) : Int) + 1 := congrArg Prod.snd h2
    omega
  have h1 : bAddB m B (evN k) = decide (((k : Nat) : Int) < m) := by rw [bAddB_eq hh]; congr 1; rw [eq_iff_iff]; omega
  refine ⟨h1, ?_⟩
  unfold bAddL
  rw [h1]
  by_cases hk : ((k : Nat) : Int) < m
  · rw [if_pos (decide_eq_true hk)]
    refine ⟨by rw [insE_len]; omega, insE_srt h.srt (has_no hh), fun x hx => ?_⟩
    rcases insE_mem.1 hx with rfl | hx
    · show ((k : Nat) : Int) + 1 ≤ ((k + 1 : Nat) : Int); omega
    · have := h.seq x hx; omega
  · rw [if_neg (by simpa using hk)]
    exact ⟨by omega, h.srt, fun x hx => by have := h.seq x hx; omega⟩
theorem room_end {m : Int} : bAddB m [] evT = decide (0 < m) := bAddB_eq (m := m) (B := []) (e := evT) rfl
theorem D_BufferRoom {G : Nat → Prop} {W w : World} {Rs : List HP} {most : Int} (hmost : InR most) (hS0 : Sep G W Rs w) : Ret Try.prog 6 [.int .i64 (most)] w (fun r w' => r = (.bool true : Value) ∧ Sep G W Rs w') := by
 refine Calls_of_WP (args := [.int .i64 (most)]) Try.func6 rfl rfl ?_
 refine WP_seq ?_
 refine WP_region0 (by kernel_rfl) (fun _ => ?_)
 refine st (ov_assign (v := .bool false) rfl ?_)
 refine st_nil ?_
 refine WP_seq ?_
 refine WP_region0 (by kernel_rfl) (fun _ => ?_)
 refine st (ov_move (v := .int .i64 (most)) rfl ?_)
 refine st (ov_call (f := 12) (vals := [.int .i64 (most)]) (cap := []) (show _ = (.func (.func 12) #[] #[] : Value) from rfl) rfl Try.call12 (D_bNew (x := most) hmost hS0) ?_)
 rintro _ w2 ⟨b1, rfl, hS3⟩
 refine st (ov_assign (v := .pointer (some ⟨b1, 0, none⟩)) rfl ?_)
 refine st_nil ?_
 refine WP_seq ?_
 refine WP_seq ?_
 refine WP_region0 (by kernel_rfl) (fun _ => ?_)
 refine st (ov_move (v := .pointer (some ⟨b1, 0, none⟩)) rfl ?_)
 refine st (ov_eqlPtr (b := b1) (o := 0) Try.underlying28 rfl ?_)
 refine st_nil ?_
 refine WP_cond_f rfl ?_
 refine WP_skip ?_
 refine WP_seq ?_
 refine WP_region0 (by kernel_rfl) (fun _ => ?_)
 refine st (ov_move (v := .int .i64 (most)) rfl ?_)
 refine st (ov_min (k := .i64) (a := most) (b := 256) rfl rfl ?_)
 refine st (ov_max (k := .i64) (a := 0) (b := min most 256) rfl rfl ?_)
 refine st (ov_assign (v := .int .i64 (max 0 (min most 256))) rfl ?_)
 refine st_nil ?_
 refine WP_seq ?_
 refine WP_seq ?_
 refine WP_region0 (by kernel_rfl) (fun _ => ?_)
 refine st (ov_assign (v := .int .i64 (0)) rfl ?_)
 refine st_nil ?_
 refine WP_block ?_
 refine WP_loop (fun mq σ wq => ∃ (k : Nat) (B9 : List Ev) (ρ : Env), mq = 258 - k ∧ σ = setAll ρ [(0, .int .i64 (most)), (3, .pointer (some ⟨b1, 0, none⟩)), (4, .int .i64 (max 0 (min most 256))), (5, .int .i64 ((k : Nat) : Int))] ∧ (k ≤ 258) ∧ (RoomI (max 0 (min most 256)) k B9) ∧ Sep G W ((BufO b1 (max 0 (min most 256)) B9) :: Rs) wq) ⟨0, [], _, rfl, setAll_self ⟨rfl, rfl, rfl, rfl, trivial⟩, Nat.zero_le _, (RoomI.start (by omega)), hS3⟩ ?_
 rintro m5 σ6 w4 ⟨k, B9, ρl1, rfl, rfl, hkk, hR9, hS7⟩
 have hRl9 := hR9.len
 refine WP_seq ?_
 refine WP_seq ?_
 refine WP_region0 (by kernel_rfl) (fun _ => ?_)
 refine st (ov_move (v := .int .i64 ((k : Nat) : Int)) rfl ?_)
 refine st (ov_lss (k := .i64) (a := ((k : Nat) : Int)) (b := 258) rfl rfl ?_)
 refine st_nil ?_
 cases hc8 : decide (((k : Nat) : Int) < 258)
 ·skip
  have hc8r := hc8
  have hc8 := of_decide_eq_false hc8
  refine WP_cond_f rfl ?_
  refine WP_exit ?_
  refine blk_exit ?_
  refine WP_seq ?_
  refine WP_region0 (by kernel_rfl) (fun _ => ?_)
  refine st (ov_move (v := .pointer (some ⟨b1, 0, none⟩)) rfl ?_)
  refine st (ov_call (f := 26) (vals := [.pointer (some ⟨b1, 0, none⟩)]) (cap := []) (show _ = (.func (.func 26) #[] #[] : Value) from rfl) rfl Try.call26 (D_bClear  hS7) ?_)
  rintro _ w9 ⟨rfl, hS10⟩
  refine st_nil ?_
  refine WP_seq ?_
  refine WP_region (by kernel_rfl) ?_
  refine st (ov_move (v := .pointer (some ⟨b1, 0, none⟩)) rfl ?_)
  obtain ⟨G11, hA13, hB14, hS15, hk16⟩ := hS10.lend
  obtain ⟨vl17, hb18, hl19⟩ := BufO.sh hA13
  have hsm20 : ([] : List Ev).length * 96 ≤ 140737488355328 := hl19.small
  refine st (ov_call (f := 18) (vals := [.pointer (some ⟨b1, 0, none⟩)]) (cap := []) (show _ = (.func (.func 18) #[] #[] : Value) from rfl) rfl Try.call18 (D_bLen  hA13 hS15) ?_)
  rintro _ w21 ⟨rfl, hS22⟩
  have hS23 : Sep G W ((BufO b1 (max 0 (min most 256)) ([] : List Ev)) :: Rs) w21 := hk16 _ _ hS22
  refine st (ov_eql (k := .i64) (a := ((([] : List Ev).length : Nat) : Int)) (b := 0) rfl rfl ?_)
  have hkn24 : (decide (((([] : List Ev).length : Nat) : Int) = 0)) = true := (by decide)
  rw [hkn24]
  refine st (ov_move (v := .bool true) rfl ?_)
  refine sty rfl rfl (ov_move (v := .pointer (some ⟨b1, 0, none⟩)) rfl ?_)
  refine sty rfl rfl (ov_call (f := 33) (vals := []) (cap := []) (show _ = (.func (.func 33) #[] #[] : Value) from rfl) rfl Try.call33 (D_two  hS23) ?_)
  rintro _ w26 ⟨v25, rfl, hS27⟩
  have hr28 := hS27.row (i := 0) rfl
  have hr28s : evT.deps.length * 8 ≤ 140737488355328 := hr28.2
  obtain ⟨G29, hA31, hB32, hS33, hk34⟩ := hS27.lend
  have hrd35 := RowE.rd hA31
  have hrd35s : evT.deps.length * 8 ≤ 140737488355328 := hrd35.small
  refine sty rfl rfl (ov_call (f := 14) (vals := [.pointer (some ⟨b1, 0, none⟩), .agg (evT.cells v25).toArray]) (cap := []) (show _ = (.func (.func 14) #[] #[] : Value) from rfl) rfl Try.call14 (D_bAddL (e := evT) hrd35 evT_ok hS33 ((by show InR (max 0 (min most 256)); omega)) (by first | exact hR9.srt | exact List.Pairwise.nil) (by first | omega | decide)) ?_)
  rintro _ w36 ⟨rfl, hS37⟩
  have hS38 : Sep G W ((RowE (α := Int) own 3 v25 evT.deps) :: (BufO b1 (max 0 (min most 256)) (bAddL (max 0 (min most 256)) ([] : List Ev) evT)) :: Rs) w36 := hk34 _ _ hS37
  refine sty rfl rfl (ov_move (v := .int .i64 (max 0 (min most 256))) rfl ?_)
  refine sty rfl rfl (ov_gtr (k := .i64) (a := max 0 (min most 256)) (b := 0) rfl rfl ?_)
  refine sty rfl rfl (ov_eqlb (a := (bAddB (max 0 (min most 256)) ([] : List Ev) evT)) (b := decide (0 < (max 0 (min most 256)))) Try.underlying4 rfl rfl ?_)
  have hkn39 : ((bAddB (max 0 (min most 256)) ([] : List Ev) evT) == (decide (0 < (max 0 (min most 256))))) = true := (by rw [room_end]; simp)
  rw [hkn39]
  refine st (ov_pick_t (v := .bool true) rfl rfl ?_)
  refine st (ov_move (v := .bool true) rfl ?_)
  refine sty rfl rfl (ov_call (f := 9) (vals := []) (cap := []) (show _ = (.func (.func 9) #[] #[] : Value) from rfl) rfl Try.call9 (D_known25  hS38) ?_)
  rintro _ w40 ⟨rfl, hS41⟩
  refine st (ov_pick_t (v := .bool true) rfl rfl ?_)
  refine st (ov_assign (v := .bool true) rfl ?_)
  refine st_nil ?_
  refine WP_ret ?_
  refine fin1 Try.results6 (show _ = (.bool true : Value) from rfl) ?_
  have hS42 : Sep G W Rs w40 := hS41.sel 2 [] (Nat.le_add_left _ _) rfl rfl
  refine ⟨rfl, hS42⟩
 ·skip
  have hc8r := hc8
  have hc8 := of_decide_eq_true hc8
  refine WP_cond_t rfl ?_
  refine WP_skip ?_
  refine WP_seq ?_
  refine WP_block ?_
  refine WP_seq ?_
  refine WP_region0 (by kernel_rfl) (fun _ => ?_)
  refine st (ov_call (f := 33) (vals := []) (cap := []) (show _ = (.func (.func 33) #[] #[] : Value) from rfl) rfl Try.call33 (D_two  hS7) ?_)
  rintro _ w44 ⟨v43, rfl, hS45⟩
  have hr46 := hS45.row (i := 0) rfl
  have hr46s : evT.deps.length * 8 ≤ 140737488355328 := hr46.2
  refine st (ov_alloc Try.zeroValue36 ?_)
  intro w49 b48 hn47
  have hS50 : Sep G W ((Blk b48 #[.int .i64 (0), .int .i64 (0), .int .i64 (0), (.slice none 0 0), .int .i64 (0), .int .i64 (0), .int .i64 (0), .int .i64 (0), .int .i64 (0), .int .i64 (0)] 36) :: (RowE (α := Int) own 3 v43 evT.deps) :: (BufO b1 (max 0 (min most 256)) B9) :: Rs) w49 := hS45.new hn47
  refine stn (ov_store (v := .agg (evT.cells v43).toArray) (c' := (evT.cells v43).toArray) Try.sizeOf36 rfl rfl (hS50.blk (i := 0) rfl) (all1 ⟨rfl, rfl, rfl, hr46.1.one, rfl, rfl, rfl, rfl, rfl, rfl, trivial⟩) (Nat.le_of_ble_eq_true rfl) rfl ?_)
  intro w51 hp52
  have hS53 : Sep G W ((Blk b48 (evT.cells v43).toArray 36) :: (RowE (α := Int) own 3 v43 evT.deps) :: (BufO b1 (max 0 (min most 256)) B9) :: Rs) w51 := hS50.put (i := 0) rfl hp52
  refine st_nil ?_
  refine WP_seq ?_
  refine WP_region0 (by kernel_rfl) (fun _ => ?_)
  refine st (ov_move (v := .int .i64 ((k : Nat) : Int)) rfl ?_)
  have hr54 : InR ((k + 1 : Nat) : Int) := by first | omega | (simp only [lens]; omega)
  refine st (ov_add (r := ((k + 1 : Nat) : Int)) (k := .i64) (a := ((k : Nat) : Int)) (b := 1) rfl rfl (by rw [show (((k : Nat) : Int) + 1 : Int) = ((k + 1 : Nat) : Int) by first | omega | (simp only [lens]; omega)]; exact wrap_in hr54) ?_)
  refine st (fd36_0 rfl ?_)
  refine st (fd33_1 rfl ?_)
  refine stn (ov_store1 (v := .int .i64 ((k + 1 : Nat) : Int)) (c := [.int .i64 (evT.origin), .int .i64 (evT.seq), .int .i64 (evT.lam), v43, .int .i64 (evT.typ), .int .i64 (evT.agg), .int .i64 (evT.field), .int .i64 (evT.op), .int .i64 (evT.arg), .int .i64 (evT.key)]) (c' := [.int .i64 (evT.origin), .int .i64 ((k + 1 : Nat) : Int), .int .i64 (evT.lam), v43, .int .i64 (evT.typ), .int .i64 (evT.agg), .int .i64 (evT.field), .int .i64 (evT.op), .int .i64 (evT.arg), .int .i64 (evT.key)]) Try.sizeOf3 rfl rfl (hS53.blk (i := 0) rfl) rfl rfl rfl ?_)
  intro w55 hp56
  have hS57 : Sep G W ((Blk b48 ((evN k).cells v43).toArray 36) :: (RowE (α := Int) own 3 v43 evT.deps) :: (BufO b1 (max 0 (min most 256)) B9) :: Rs) w55 := hS53.put (i := 0) rfl hp56
  refine st_nil ?_
  refine WP_seq ?_
  obtain ⟨hadd9, hR8⟩ := hR9.step; have hRm9 := hR8.len
  refine WP_region (by kernel_rfl) ?_
  refine st (ov_move (v := .pointer (some ⟨b1, 0, none⟩)) rfl ?_)
  refine st (ov_loadk (k := 10) Try.isAgg36 Try.sizeOf36 rfl rfl (CellsAt.all (hS57.blk (i := 0) rfl)) ?_)
  have hS58 : Sep G W ((RowE (α := Int) own 3 v43 evT.deps) :: (Blk b48 ((evN k).cells v43).toArray 36) :: (BufO b1 (max 0 (min most 256)) B9) :: Rs) w55 := hS57.sel 3 [1, 0, 2] (Nat.le_add_left _ _) rfl rfl
  obtain ⟨G59, hA61, hB62, hS63, hk64⟩ := hS58.lend
  have hrd65 := RowE.rd hA61
  have hrd65s : evT.deps.length * 8 ≤ 140737488355328 := hrd65.small
  have hS66 : Sep G59 w55 ((BufO b1 (max 0 (min most 256)) B9) :: (Blk b48 ((evN k).cells v43).toArray 36) :: Rs) w55 := hS63.sel 2 [1, 0] (Nat.le_add_left _ _) rfl rfl
  refine st (ov_call (f := 14) (vals := [.pointer (some ⟨b1, 0, none⟩), .agg ((evN k).cells v43).toArray]) (cap := []) (show _ = (.func (.func 14) #[] #[] : Value) from rfl) rfl Try.call14 (D_bAddL (e := (evN k)) hrd65 (evN_ok (by omega)) hS66 ((by show InR (max 0 (min most 256)); omega)) (by first | exact hR9.srt | exact List.Pairwise.nil) (by first | omega | decide)) ?_)
  rintro _ w67 ⟨rfl, hS68⟩
  have hS69 : Sep G W ((RowE (α := Int) own 3 v43 evT.deps) :: (BufO b1 (max 0 (min most 256)) (bAddL (max 0 (min most 256)) B9 (evN k))) :: (Blk b48 ((evN k).cells v43).toArray 36) :: Rs) w67 := hk64 _ _ hS68
  refine st (ov_move (v := .int .i64 ((k : Nat) : Int)) rfl ?_)
  refine st (ov_move (v := .int .i64 (max 0 (min most 256))) rfl ?_)
  refine st (ov_lss (k := .i64) (a := ((k : Nat) : Int)) (b := max 0 (min most 256)) rfl rfl ?_)
  refine st (ov_neqb (a := (bAddB (max 0 (min most 256)) B9 (evN k))) (b := decide (((k : Nat) : Int) < (max 0 (min most 256)))) Try.underlying4 rfl rfl ?_)
  have hkn70 : (!((bAddB (max 0 (min most 256)) B9 (evN k)) == (decide (((k : Nat) : Int) < (max 0 (min most 256)))))) = false := (by rw [hadd9]; simp)
  rw [hkn70]
  refine st (ov_move (v := .bool false) rfl ?_)
  refine sty rfl rfl (ov_move (v := .pointer (some ⟨b1, 0, none⟩)) rfl ?_)
  have hS71 : Sep G W ((BufO b1 (max 0 (min most 256)) (bAddL (max 0 (min most 256)) B9 (evN k))) :: (RowE (α := Int) own 3 v43 evT.deps) :: (Blk b48 ((evN k).cells v43).toArray 36) :: Rs) w67 := hS69.sel 3 [1, 0, 2] (Nat.le_add_left _ _) rfl rfl
  obtain ⟨G72, hA74, hB75, hS76, hk77⟩ := hS71.lend
  obtain ⟨vl78, hb79, hl80⟩ := BufO.sh hA74
  have hsm81 : (bAddL (max 0 (min most 256)) B9 (evN k)).length * 96 ≤ 140737488355328 := hl80.small
  refine sty rfl rfl (ov_call (f := 18) (vals := [.pointer (some ⟨b1, 0, none⟩)]) (cap := []) (show _ = (.func (.func 18) #[] #[] : Value) from rfl) rfl Try.call18 (D_bLen  hA74 hS76) ?_)
  rintro _ w82 ⟨rfl, hS83⟩
  have hS84 : Sep G W ((BufO b1 (max 0 (min most 256)) (bAddL (max 0 (min most 256)) B9 (evN k))) :: (RowE (α := Int) own 3 v43 evT.deps) :: (Blk b48 ((evN k).cells v43).toArray 36) :: Rs) w82 := hk77 _ _ hS83
  refine sty rfl rfl (ov_move (v := .int .i64 ((k : Nat) : Int)) rfl ?_)
  have hr85 : InR ((k + 1 : Nat) : Int) := by first | omega | (simp only [lens]; omega)
  refine sty rfl rfl (ov_add (r := ((k + 1 : Nat) : Int)) (k := .i64) (a := ((k : Nat) : Int)) (b := 1) rfl rfl (by rw [show (((k : Nat) : Int) + 1 : Int) = ((k + 1 : Nat) : Int) by first | omega | (simp only [lens]; omega)]; exact wrap_in hr85) ?_)
  refine sty rfl rfl (ov_move (v := .int .i64 (max 0 (min most 256))) rfl ?_)
  refine sty rfl rfl (ov_min (k := .i64) (a := ((k + 1 : Nat) : Int)) (b := max 0 (min most 256)) rfl rfl ?_)
  refine sty rfl rfl (ov_neq (k := .i64) (a := (((bAddL (max 0 (min most 256)) B9 (evN k)).length : Nat) : Int)) (b := min ((k + 1 : Nat) : Int) (max 0 (min most 256))) rfl rfl ?_)
  have hkn86 : (!decide ((((bAddL (max 0 (min most 256)) B9 (evN k)).length : Nat) : Int) = (min ((k + 1 : Nat) : Int) (max 0 (min most 256))))) = false := (by rw [Bool.not_eq_false', decide_eq_true_eq]; omega)
  rw [hkn86]
  refine st (ov_pick_f (v := .bool false) rfl rfl ?_)
  refine st_nil ?_
  refine WP_cond_f rfl ?_
  refine WP_skip ?_
  refine WP_region0 (by kernel_rfl) (fun _ => ?_)
  refine st (ov_move (v := .int .i64 ((k : Nat) : Int)) rfl ?_)
  have hr87 : InR ((k + 1 : Nat) : Int) := by first | omega | (simp only [lens]; omega)
  refine st (ov_add (r := ((k + 1 : Nat) : Int)) (k := .i64) (a := ((k : Nat) : Int)) (b := 1) rfl rfl (by rw [show (((k : Nat) : Int) + 1 : Int) = ((k + 1 : Nat) : Int) by first | omega | (simp only [lens]; omega)]; exact wrap_in hr87) ?_)
  refine st (ov_assign (v := .int .i64 ((k + 1 : Nat) : Int)) rfl ?_)
  refine st_nil ?_
  have hS88 : Sep G W ((BufO b1 (max 0 (min most 256)) (bAddL (max 0 (min most 256)) B9 (evN k))) :: Rs) w82 := hS84.sel 3 [0] (Nat.le_add_left _ _) rfl rfl
  exact ⟨_, by omega, k + 1, (bAddL (max 0 (min most 256)) B9 (evN k)), _, rfl, setAll_self ⟨rfl, rfl, rfl, rfl, trivial⟩, by omega, hR8, hS88⟩

end Go.Proofs.Ytmiihhbeclhaoaa
end

section
/- Steps of the proofs of this seat: part F2. -/
set_option linter.unusedSimpArgs false
set_option linter.unusedVariables false
set_option maxRecDepth 8000
set_option maxHeartbeats 4000000
namespace Go.Proofs.Ytmiihhbeclhaoaa
open Go.Proofs Go.RowKit

theorem C_BufferRoom {W : World} {z0 : Int} (hz0 : InR z0) : Ret Try.prog 6 [.int .i64 z0] W (fun r w' => r = .bool true ∧ Ext W w') :=
  Ret.mono (D_BufferRoom hz0 (Sep.start W)) (fun v w' ⟨h1, h2⟩ => ⟨h1, h2.fin⟩)
end Go.Proofs.Ytmiihhbeclhaoaa
end
