/- Steps of the proofs of this seat: part B2. -/
import Derived.Test.YtgjgmojjeehieaaB1
set_option linter.unusedSimpArgs false
set_option linter.unusedVariables false
set_option maxRecDepth 8000
set_option maxHeartbeats 4000000
namespace Go.Proofs.Ytgjgmojjeehieaa
open Go.Proofs Go.RowKit

theorem evA_ok : evA.Ok := by constructor <;> decide
theorem evB_ok : evB.Ok := by constructor <;> decide
theorem kx1 : addL 2 [] evB = [] := by decide +kernel
theorem kx2 : addL 2 [] evA = [evA] := by decide +kernel
theorem kx3 : addL 2 [evA] evA = [evA] := by decide +kernel
theorem kx4 : addL 2 [evA] evB = [evA, evB] := by decide +kernel
theorem kg : Good 2 [evA, evB] := by
  have h1 : Good 2 [evA] := by rw [← kx2]; exact Good.nil.addL
  rw [← kx4]; exact h1.addL
theorem kg1 : Good 2 [evA] := by rw [← kx2]; exact Good.nil.addL
theorem D_known9 {G : Nat → Prop} {W w : World} {Rs : List HP}  (hS0 : Sep G W Rs w) : Ret Try.prog 16 [] w (fun r w' => r = (.bool true : Value) ∧ Sep G W Rs w') := by
 refine Calls_of_WP (args := []) Try.func16 rfl rfl ?_
 refine WP_seq ?_
 refine WP_region0 (by kernel_rfl) (fun _ => ?_)
 refine st (ov_assign (v := .bool false) rfl ?_)
 refine st_nil ?_
 refine WP_seq ?_
 refine WP_region0 (by kernel_rfl) (fun _ => ?_)
 refine st (ov_call (f := 20) (vals := [.int .i64 (2)]) (cap := []) (show _ = (.func (.func 20) #[] #[] : Value) from rfl) rfl Try.call20 (D_NewSet (n := 2) (by first | omega | (refine ⟨?_, ?_⟩ <;> omega)) hS0) ?_)
 rintro _ w2 ⟨b1, rfl, hS3⟩
 refine st (ov_assign (v := .pointer (some ⟨b1, 0, none⟩)) rfl ?_)
 refine st_nil ?_
 refine WP_seq ?_
 refine WP_region (by kernel_rfl) ?_
 refine st (ov_move (v := .pointer (some ⟨b1, 0, none⟩)) rfl ?_)
 refine st (ov_neqPtr (b := b1) (o := 0) Try.underlying26 rfl ?_)
 refine st (ov_move (v := .bool true) rfl ?_)
 refine sty rfl rfl (ov_move (v := .pointer (some ⟨b1, 0, none⟩)) rfl ?_)
 refine sty rfl rfl (ov_call (f := 33) (vals := []) (cap := []) (show _ = (.func (.func 33) #[] #[] : Value) from rfl) rfl Try.call33 (D_b  hS3) ?_)
 rintro _ w5 ⟨v4, rfl, hS6⟩
 have hr7 := hS6.row (i := 0) rfl
 have hr7s : evB.deps.length * 8 ≤ 140737488355328 := hr7.2
 obtain ⟨G8, hA10, hB11, hS12, hk13⟩ := hS6.lend
 have hrd14 := RowE.rd hA10
 have hrd14s : evB.deps.length * 8 ≤ 140737488355328 := hrd14.small
 refine sty rfl rfl (ov_call (f := 21) (vals := [.pointer (some ⟨b1, 0, none⟩), .agg (evB.cells v4).toArray]) (cap := []) (show _ = (.func (.func 21) #[] #[] : Value) from rfl) rfl Try.call21 (D_Add (e := evB) hrd14 evB_ok hS12 ((by decide)) (by first | exact Good.nil.len | exact kg1.len | exact kg.len)) ?_)
 rintro _ w17 ⟨L115, rfl, hL116, hS18⟩
 have hS19 : Sep G W ((RowE (α := Int) own 3 v4 evB.deps) :: (SetO b1 2 L115) :: Rs) w17 := hk13 _ _ hS18
 obtain rfl := hL116.trans kx1
 refine sty rfl rfl (ov_eql (k := .i64) (a := (addE 2 ([] : List Ev) evB)) (b := 9) rfl rfl ?_)
 have hkn20 : (decide ((addE 2 ([] : List Ev) evB) = 9)) = true := (by decide +kernel)
 rw [hkn20]
 refine st (ov_pick_t (v := .bool true) rfl rfl ?_)
 refine st (ov_move (v := .bool true) rfl ?_)
 refine sty rfl rfl (ov_move (v := .pointer (some ⟨b1, 0, none⟩)) rfl ?_)
 refine sty rfl rfl (ov_call (f := 32) (vals := []) (cap := []) (show _ = (.func (.func 32) #[] #[] : Value) from rfl) rfl Try.call32 (D_a  hS19) ?_)
 rintro _ w22 ⟨v21, rfl, hS23⟩
 have hr24 := hS23.row (i := 0) rfl
 have hr24s : evA.deps.length * 8 ≤ 140737488355328 := hr24.2
 obtain ⟨G25, hA27, hB28, hS29, hk30⟩ := hS23.lend
 have hrd31 := RowE.rd hA27
 have hrd31s : evA.deps.length * 8 ≤ 140737488355328 := hrd31.small
 have hS32 : Sep G25 w22 ((SetO b1 2 ([] : List Ev)) :: (RowE (α := Int) own 3 v4 evB.deps) :: Rs) w22 := hS29.sel 2 [1, 0] (Nat.le_add_left _ _) rfl rfl
 refine sty rfl rfl (ov_call (f := 21) (vals := [.pointer (some ⟨b1, 0, none⟩), .agg (evA.cells v21).toArray]) (cap := []) (show _ = (.func (.func 21) #[] #[] : Value) from rfl) rfl Try.call21 (D_Add (e := evA) hrd31 evA_ok hS32 ((by decide)) (by first | exact Good.nil.len | exact kg1.len | exact kg.len)) ?_)
 rintro _ w35 ⟨L133, rfl, hL134, hS36⟩
 have hS37 : Sep G W ((RowE (α := Int) own 3 v21 evA.deps) :: (SetO b1 2 L133) :: (RowE (α := Int) own 3 v4 evB.deps) :: Rs) w35 := hk30 _ _ hS36
 obtain rfl := hL134.trans kx2
 refine sty rfl rfl (ov_eql (k := .i64) (a := (addE 2 ([] : List Ev) evA)) (b := 0) rfl rfl ?_)
 have hkn38 : (decide ((addE 2 ([] : List Ev) evA) = 0)) = true := (by decide +kernel)
 rw [hkn38]
 refine st (ov_pick_t (v := .bool true) rfl rfl ?_)
 refine st (ov_move (v := .bool true) rfl ?_)
 refine sty rfl rfl (ov_move (v := .pointer (some ⟨b1, 0, none⟩)) rfl ?_)
 refine sty rfl rfl (ov_call (f := 32) (vals := []) (cap := []) (show _ = (.func (.func 32) #[] #[] : Value) from rfl) rfl Try.call32 (D_a  hS37) ?_)
 rintro _ w40 ⟨v39, rfl, hS41⟩
 have hr42 := hS41.row (i := 0) rfl
 have hr42s : evA.deps.length * 8 ≤ 140737488355328 := hr42.2
 obtain ⟨G43, hA45, hB46, hS47, hk48⟩ := hS41.lend
 have hrd49 := RowE.rd hA45
 have hrd49s : evA.deps.length * 8 ≤ 140737488355328 := hrd49.small
 have hS50 : Sep G43 w40 ((SetO b1 2 [evA]) :: (RowE (α := Int) own 3 v21 evA.deps) :: (RowE (α := Int) own 3 v4 evB.deps) :: Rs) w40 := hS47.sel 3 [1, 0, 2] (Nat.le_add_left _ _) rfl rfl
 refine sty rfl rfl (ov_call (f := 21) (vals := [.pointer (some ⟨b1, 0, none⟩), .agg (evA.cells v39).toArray]) (cap := []) (show _ = (.func (.func 21) #[] #[] : Value) from rfl) rfl Try.call21 (D_Add (e := evA) hrd49 evA_ok hS50 ((by decide)) (by first | exact Good.nil.len | exact kg1.len | exact kg.len)) ?_)
 rintro _ w53 ⟨L151, rfl, hL152, hS54⟩
 have hS55 : Sep G W ((RowE (α := Int) own 3 v39 evA.deps) :: (SetO b1 2 L151) :: (RowE (α := Int) own 3 v21 evA.deps) :: (RowE (α := Int) own 3 v4 evB.deps) :: Rs) w53 := hk48 _ _ hS54
 obtain rfl := hL152.trans kx3
 refine sty rfl rfl (ov_eql (k := .i64) (a := (addE 2 [evA] evA)) (b := 16) rfl rfl ?_)
 have hkn56 : (decide ((addE 2 [evA] evA) = 16)) = true := (by decide +kernel)
 rw [hkn56]
 refine st (ov_pick_t (v := .bool true) rfl rfl ?_)
 refine st (ov_move (v := .bool true) rfl ?_)
 refine sty rfl rfl (ov_move (v := .pointer (some ⟨b1, 0, none⟩)) rfl ?_)
 refine sty rfl rfl (ov_call (f := 33) (vals := []) (cap := []) (show _ = (.func (.func 33) #[] #[] : Value) from rfl) rfl Try.call33 (D_b  hS55) ?_)
 rintro _ w58 ⟨v57, rfl, hS59⟩
 have hr60 := hS59.row (i := 0) rfl
 have hr60s : evB.deps.length * 8 ≤ 140737488355328 := hr60.2
 obtain ⟨G61, hA63, hB64, hS65, hk66⟩ := hS59.lend
 have hrd67 := RowE.rd hA63
 have hrd67s : evB.deps.length * 8 ≤ 140737488355328 := hrd67.small
 have hS68 : Sep G61 w58 ((SetO b1 2 [evA]) :: (RowE (α := Int) own 3 v39 evA.deps) :: (RowE (α := Int) own 3 v21 evA.deps) :: (RowE (α := Int) own 3 v4 evB.deps) :: Rs) w58 := hS65.sel 4 [1, 0, 2, 3] (Nat.le_add_left _ _) rfl rfl
 refine sty rfl rfl (ov_call (f := 21) (vals := [.pointer (some ⟨b1, 0, none⟩), .agg (evB.cells v57).toArray]) (cap := []) (show _ = (.func (.func 21) #[] #[] : Value) from rfl) rfl Try.call21 (D_Add (e := evB) hrd67 evB_ok hS68 ((by decide)) (by first | exact Good.nil.len | exact kg1.len | exact kg.len)) ?_)
 rintro _ w71 ⟨L169, rfl, hL170, hS72⟩
 have hS73 : Sep G W ((RowE (α := Int) own 3 v57 evB.deps) :: (SetO b1 2 L169) :: (RowE (α := Int) own 3 v39 evA.deps) :: (RowE (α := Int) own 3 v21 evA.deps) :: (RowE (α := Int) own 3 v4 evB.deps) :: Rs) w71 := hk66 _ _ hS72
 obtain rfl := hL170.trans kx4
 refine sty rfl rfl (ov_eql (k := .i64) (a := (addE 2 [evA] evB)) (b := 0) rfl rfl ?_)
 have hkn74 : (decide ((addE 2 [evA] evB) = 0)) = true := (by decide +kernel)
 rw [hkn74]
 refine st (ov_pick_t (v := .bool true) rfl rfl ?_)
 refine st (ov_move (v := .bool true) rfl ?_)
 refine sty rfl rfl (ov_move (v := .pointer (some ⟨b1, 0, none⟩)) rfl ?_)
 have hS75 : Sep G W ((SetO b1 2 [evA, evB]) :: (RowE (α := Int) own 3 v57 evB.deps) :: (RowE (α := Int) own 3 v39 evA.deps) :: (RowE (α := Int) own 3 v21 evA.deps) :: (RowE (α := Int) own 3 v4 evB.deps) :: Rs) w71 := hS73.sel 5 [1, 0, 2, 3, 4] (Nat.le_add_left _ _) rfl rfl
 obtain ⟨G76, hA78, hB79, hS80, hk81⟩ := hS75.lend
 obtain ⟨vv82, m83, R84, hb85, hv86, hr87⟩ := SetO.sh hA78
 have hsm88 : (vecE 2 [evA, evB]).length * 8 ≤ 140737488355328 := hv86.small
 refine sty rfl rfl (ov_call (f := 26) (vals := [.pointer (some ⟨b1, 0, none⟩)]) (cap := []) (show _ = (.func (.func 26) #[] #[] : Value) from rfl) rfl Try.call26 (D_Vec  hA78 hS80) ?_)
 rintro v89 w90 ⟨_, rfl, hS91⟩
 have hr92 := hS91.row (i := 0) rfl
 have hr92s : (vecE 2 [evA, evB]).length * 8 ≤ 140737488355328 := hr92.2
 have hS93 : Sep G W ((SetO b1 2 [evA, evB]) :: (RowE (α := Int) own 3 v89 (vecE 2 [evA, evB])) :: (RowE (α := Int) own 3 v57 evB.deps) :: (RowE (α := Int) own 3 v39 evA.deps) :: (RowE (α := Int) own 3 v21 evA.deps) :: (RowE (α := Int) own 3 v4 evB.deps) :: Rs) w90 := hk81 _ _ hS91
 refine sty rfl rfl (ov_buildSlice (k := 1) (parts' := [(0, .int .i64 (1)), (1, .int .i64 (1))]) (c := #[.int .i64 (1), .int .i64 (1)]) Try.underlying34 Try.sizeOf3 Try.zeroValue3 (by decide) rfl (by kernel_rfl) ?_)
 intro w96 b95 hn94
 have hS97 : Sep G W ((Blk b95 #[.int .i64 (1), .int .i64 (1)] 3) :: (SetO b1 2 [evA, evB]) :: (RowE (α := Int) own 3 v89 (vecE 2 [evA, evB])) :: (RowE (α := Int) own 3 v57 evB.deps) :: (RowE (α := Int) own 3 v39 evA.deps) :: (RowE (α := Int) own 3 v21 evA.deps) :: (RowE (α := Int) own 3 v4 evB.deps) :: Rs) w96 := hS93.new hn94
 have hS98 : Sep G W ((RowE (α := Int) own 3 v89 (vecE 2 [evA, evB])) :: (Blk b95 #[.int .i64 (1), .int .i64 (1)] 3) :: (SetO b1 2 [evA, evB]) :: (RowE (α := Int) own 3 v57 evB.deps) :: (RowE (α := Int) own 3 v39 evA.deps) :: (RowE (α := Int) own 3 v21 evA.deps) :: (RowE (α := Int) own 3 v4 evB.deps) :: Rs) w96 := hS97.sel 7 [2, 0, 1, 3, 4, 5, 6] (Nat.le_add_left _ _) rfl rfl
 obtain ⟨G99, hA101, hB102, hS103, hk104⟩ := hS98.lend
 have hrd105 := RowE.rd hA101
 have hrd105s : (vecE 2 [evA, evB]).length * 8 ≤ 140737488355328 := hrd105.small
 have hS106 : Sep G99 w96 ((RowE (α := Int) own 3 (.slice (some ⟨b95, 0, none⟩) 2 2) [1, 1]) :: (SetO b1 2 [evA, evB]) :: (RowE (α := Int) own 3 v57 evB.deps) :: (RowE (α := Int) own 3 v39 evA.deps) :: (RowE (α := Int) own 3 v21 evA.deps) :: (RowE (α := Int) own 3 v4 evB.deps) :: Rs) w96 := Sep.blkRow (src := own) (l := [1, 1]) (css := [[.int .i64 (1)], [.int .i64 (1)]]) hS103 rfl ⟨fun _ _ => ⟨rfl, (by decide)⟩, fun _ _ => ⟨rfl, (by decide)⟩, trivial⟩ (by first | decide | (simp only [List.length_cons, List.length_nil]; decide))
 have hr107 := hS106.row (i := 0) rfl
 have hr107s : [1, 1].length * 8 ≤ 140737488355328 := hr107.2
 obtain ⟨G108, hA110, hB111, hS112, hk113⟩ := hS106.lend
 have hrd114 := RowE.rd hA110
 have hrd114s : [1, 1].length * 8 ≤ 140737488355328 := hrd114.small
 refine sty rfl rfl (ov_call (f := 27) (vals := [v89, (.slice (some ⟨b95, 0, none⟩) 2 2)]) (cap := []) (show _ = (.func (.func 27) #[] #[] : Value) from rfl) rfl Try.call27 (D_SameInts (a := vecE 2 [evA, evB]) (va := v89) (b := [1, 1]) (vb := (.slice (some ⟨b95, 0, none⟩) 2 2)) (RdS.base hrd105 hB111) hrd114 hS112) ?_)
 rintro _ w115 ⟨rfl, hS116⟩
 have hS117 : Sep G99 w96 ((RowE (α := Int) own 3 (.slice (some ⟨b95, 0, none⟩) 2 2) [1, 1]) :: (SetO b1 2 [evA, evB]) :: (RowE (α := Int) own 3 v57 evB.deps) :: (RowE (α := Int) own 3 v39 evA.deps) :: (RowE (α := Int) own 3 v21 evA.deps) :: (RowE (α := Int) own 3 v4 evB.deps) :: Rs) w115 := hk113 _ _ hS116
 have hS118 : Sep G W ((RowE (α := Int) own 3 v89 (vecE 2 [evA, evB])) :: (RowE (α := Int) own 3 (.slice (some ⟨b95, 0, none⟩) 2 2) [1, 1]) :: (SetO b1 2 [evA, evB]) :: (RowE (α := Int) own 3 v57 evB.deps) :: (RowE (α := Int) own 3 v39 evA.deps) :: (RowE (α := Int) own 3 v21 evA.deps) :: (RowE (α := Int) own 3 v4 evB.deps) :: Rs) w115 := hk104 _ _ hS117
 have hkn119 : (decide ((vecE 2 [evA, evB]) = [1, 1])) = true := (by decide +kernel)
 rw [hkn119]
 refine st (ov_pick_t (v := .bool true) rfl rfl ?_)
 refine st (ov_move (v := .bool true) rfl ?_)
 refine sty rfl rfl (ov_move (v := .pointer (some ⟨b1, 0, none⟩)) rfl ?_)
 have hS120 : Sep G W ((SetO b1 2 [evA, evB]) :: (RowE (α := Int) own 3 v89 (vecE 2 [evA, evB])) :: (RowE (α := Int) own 3 (.slice (some ⟨b95, 0, none⟩) 2 2) [1, 1]) :: (RowE (α := Int) own 3 v57 evB.deps) :: (RowE (α := Int) own 3 v39 evA.deps) :: (RowE (α := Int) own 3 v21 evA.deps) :: (RowE (α := Int) own 3 v4 evB.deps) :: Rs) w115 := hS118.sel 7 [2, 0, 1, 3, 4, 5, 6] (Nat.le_add_left _ _) rfl rfl
 obtain ⟨G121, hA123, hB124, hS125, hk126⟩ := hS120.lend
 obtain ⟨vv127, m128, R129, hb130, hv131, hr132⟩ := SetO.sh hA123
 have hsm133 : (vecE 2 [evA, evB]).length * 8 ≤ 140737488355328 := hv131.small
 refine sty rfl rfl (ov_call (f := 23) (vals := [.pointer (some ⟨b1, 0, none⟩)]) (cap := []) (show _ = (.func (.func 23) #[] #[] : Value) from rfl) rfl Try.call23 (D_Top  hA123 hS125) ?_)
 rintro _ w134 ⟨rfl, hS135⟩
 have hS136 : Sep G W ((SetO b1 2 [evA, evB]) :: (RowE (α := Int) own 3 v89 (vecE 2 [evA, evB])) :: (RowE (α := Int) own 3 (.slice (some ⟨b95, 0, none⟩) 2 2) [1, 1]) :: (RowE (α := Int) own 3 v57 evB.deps) :: (RowE (α := Int) own 3 v39 evA.deps) :: (RowE (α := Int) own 3 v21 evA.deps) :: (RowE (α := Int) own 3 v4 evB.deps) :: Rs) w134 := hk126 _ _ hS135
 refine sty rfl rfl (ov_eql (k := .i64) (a := topE [evA, evB]) (b := 2) rfl rfl ?_)
 have hkn137 : (decide ((topE [evA, evB]) = 2)) = true := (by decide +kernel)
 rw [hkn137]
 refine st (ov_pick_t (v := .bool true) rfl rfl ?_)
 refine st (ov_move (v := .bool true) rfl ?_)
 refine sty rfl rfl (ov_move (v := .pointer (some ⟨b1, 0, none⟩)) rfl ?_)
 refine sty rfl rfl (ov_buildSlice (k := 1) (parts' := [(0, .int .i64 (1)), (1, .int .i64 (0))]) (c := #[.int .i64 (1), .int .i64 (0)]) Try.underlying34 Try.sizeOf3 Try.zeroValue3 (by decide) rfl (by kernel_rfl) ?_)
 intro w140 b139 hn138
 have hS141 : Sep G W ((Blk b139 #[.int .i64 (1), .int .i64 (0)] 3) :: (SetO b1 2 [evA, evB]) :: (RowE (α := Int) own 3 v89 (vecE 2 [evA, evB])) :: (RowE (α := Int) own 3 (.slice (some ⟨b95, 0, none⟩) 2 2) [1, 1]) :: (RowE (α := Int) own 3 v57 evB.deps) :: (RowE (α := Int) own 3 v39 evA.deps) :: (RowE (α := Int) own 3 v21 evA.deps) :: (RowE (α := Int) own 3 v4 evB.deps) :: Rs) w140 := hS136.new hn138
 have hS142 : Sep G W ((SetO b1 2 [evA, evB]) :: (Blk b139 #[.int .i64 (1), .int .i64 (0)] 3) :: (RowE (α := Int) own 3 v89 (vecE 2 [evA, evB])) :: (RowE (α := Int) own 3 (.slice (some ⟨b95, 0, none⟩) 2 2) [1, 1]) :: (RowE (α := Int) own 3 v57 evB.deps) :: (RowE (α := Int) own 3 v39 evA.deps) :: (RowE (α := Int) own 3 v21 evA.deps) :: (RowE (α := Int) own 3 v4 evB.deps) :: Rs) w140 := hS141.sel 8 [1, 0, 2, 3, 4, 5, 6, 7] (Nat.le_add_left _ _) rfl rfl
 obtain ⟨G143, hA145, hB146, hS147, hk148⟩ := hS142.lend
 obtain ⟨vv149, m150, R151, hb152, hv153, hr154⟩ := SetO.sh hA145
 have hsm155 : (vecE 2 [evA, evB]).length * 8 ≤ 140737488355328 := hv153.small
 have hS156 : Sep G143 w140 ((RowE (α := Int) own 3 (.slice (some ⟨b139, 0, none⟩) 2 2) [1, 0]) :: (RowE (α := Int) own 3 v89 (vecE 2 [evA, evB])) :: (RowE (α := Int) own 3 (.slice (some ⟨b95, 0, none⟩) 2 2) [1, 1]) :: (RowE (α := Int) own 3 v57 evB.deps) :: (RowE (α := Int) own 3 v39 evA.deps) :: (RowE (α := Int) own 3 v21 evA.deps) :: (RowE (α := Int) own 3 v4 evB.deps) :: Rs) w140 := Sep.blkRow (src := own) (l := [1, 0]) (css := [[.int .i64 (1)], [.int .i64 (0)]]) hS147 rfl ⟨fun _ _ => ⟨rfl, (by decide)⟩, fun _ _ => ⟨rfl, (by decide)⟩, trivial⟩ (by first | decide | (simp only [List.length_cons, List.length_nil]; decide))
 have hr157 := hS156.row (i := 0) rfl
 have hr157s : [1, 0].length * 8 ≤ 140737488355328 := hr157.2
 obtain ⟨G158, hA160, hB161, hS162, hk163⟩ := hS156.lend
 have hrd164 := RowE.rd hA160
 have hrd164s : [1, 0].length * 8 ≤ 140737488355328 := hrd164.small
 refine sty rfl rfl (ov_call (f := 25) (vals := [.pointer (some ⟨b1, 0, none⟩), (.slice (some ⟨b139, 0, none⟩) 2 2), .int .i64 (5)]) (cap := []) (show _ = (.func (.func 25) #[] #[] : Value) from rfl) rfl Try.call25 (D_Missing (l := [1, 0]) (vl := (.slice (some ⟨b139, 0, none⟩) 2 2)) (most := 5) (HP.base hA145 hB161) hrd164 (by decide) hS162 (kg.ids) (kg.srt) ((by decide))) ?_)
 rintro v165 w166 ⟨_, rfl, hS167⟩
 have hr168 := hS167.row (i := 0) rfl
 have hr168s : (missL [evA, evB] [1, 0] 5).length * 96 ≤ 140737488355328 := hr168.2
 have hS169 : Sep G143 w140 ((RowE (α := Int) own 3 (.slice (some ⟨b139, 0, none⟩) 2 2) [1, 0]) :: (RowE (α := Ev) own 36 v165 (missL [evA, evB] [1, 0] 5)) :: (RowE (α := Int) own 3 v89 (vecE 2 [evA, evB])) :: (RowE (α := Int) own 3 (.slice (some ⟨b95, 0, none⟩) 2 2) [1, 1]) :: (RowE (α := Int) own 3 v57 evB.deps) :: (RowE (α := Int) own 3 v39 evA.deps) :: (RowE (α := Int) own 3 v21 evA.deps) :: (RowE (α := Int) own 3 v4 evB.deps) :: Rs) w166 := hk163 _ _ hS167
 have hS170 : Sep G W ((SetO b1 2 [evA, evB]) :: (RowE (α := Int) own 3 (.slice (some ⟨b139, 0, none⟩) 2 2) [1, 0]) :: (RowE (α := Ev) own 36 v165 (missL [evA, evB] [1, 0] 5)) :: (RowE (α := Int) own 3 v89 (vecE 2 [evA, evB])) :: (RowE (α := Int) own 3 (.slice (some ⟨b95, 0, none⟩) 2 2) [1, 1]) :: (RowE (α := Int) own 3 v57 evB.deps) :: (RowE (α := Int) own 3 v39 evA.deps) :: (RowE (α := Int) own 3 v21 evA.deps) :: (RowE (α := Int) own 3 v4 evB.deps) :: Rs) w166 := hk148 _ _ hS169
 refine sty rfl rfl (ov_call (f := 33) (vals := []) (cap := []) (show _ = (.func (.func 33) #[] #[] : Value) from rfl) rfl Try.call33 (D_b  hS170) ?_)
 rintro _ w172 ⟨v171, rfl, hS173⟩
 have hr174 := hS173.row (i := 0) rfl
 have hr174s : evB.deps.length * 8 ≤ 140737488355328 := hr174.2
 refine sty rfl rfl (ov_buildSlice (k := 10) (parts' := [(0, .agg (evB.cells v171).toArray)]) (c := (evB.cells v171).toArray) Try.underlying22 Try.sizeOf36 Try.zeroValue36 (by decide) rfl (by kernel_rfl) ?_)
 intro w177 b176 hn175
 have hS178 : Sep G W ((Blk b176 (evB.cells v171).toArray 36) :: (RowE (α := Int) own 3 v171 evB.deps) :: (SetO b1 2 [evA, evB]) :: (RowE (α := Int) own 3 (.slice (some ⟨b139, 0, none⟩) 2 2) [1, 0]) :: (RowE (α := Ev) own 36 v165 (missL [evA, evB] [1, 0] 5)) :: (RowE (α := Int) own 3 v89 (vecE 2 [evA, evB])) :: (RowE (α := Int) own 3 (.slice (some ⟨b95, 0, none⟩) 2 2) [1, 1]) :: (RowE (α := Int) own 3 v57 evB.deps) :: (RowE (α := Int) own 3 v39 evA.deps) :: (RowE (α := Int) own 3 v21 evA.deps) :: (RowE (α := Int) own 3 v4 evB.deps) :: Rs) w177 := hS173.new hn175
 have hS179 : Sep G W ((RowE (α := Int) own 3 v171 evB.deps) :: (Blk b176 (evB.cells v171).toArray 36) :: (SetO b1 2 [evA, evB]) :: (RowE (α := Int) own 3 (.slice (some ⟨b139, 0, none⟩) 2 2) [1, 0]) :: (RowE (α := Ev) own 36 v165 (missL [evA, evB] [1, 0] 5)) :: (RowE (α := Int) own 3 v89 (vecE 2 [evA, evB])) :: (RowE (α := Int) own 3 (.slice (some ⟨b95, 0, none⟩) 2 2) [1, 1]) :: (RowE (α := Int) own 3 v57 evB.deps) :: (RowE (α := Int) own 3 v39 evA.deps) :: (RowE (α := Int) own 3 v21 evA.deps) :: (RowE (α := Int) own 3 v4 evB.deps) :: Rs) w177 := hS178.sel 11 [1, 0, 2, 3, 4, 5, 6, 7, 8, 9, 10] (Nat.le_add_left _ _) rfl rfl
 obtain ⟨G180, hA182, hB183, hS184, hk185⟩ := hS179.lend
 have hrd186 := RowE.rd hA182
 have hrd186s : evB.deps.length * 8 ≤ 140737488355328 := hrd186.small
 have hS187 : Sep G180 w177 ((RowE (α := Int) own 3 (.slice (some ⟨b139, 0, none⟩) 2 2) [1, 0]) :: (Blk b176 (evB.cells v171).toArray 36) :: (SetO b1 2 [evA, evB]) :: (RowE (α := Ev) own 36 v165 (missL [evA, evB] [1, 0] 5)) :: (RowE (α := Int) own 3 v89 (vecE 2 [evA, evB])) :: (RowE (α := Int) own 3 (.slice (some ⟨b95, 0, none⟩) 2 2) [1, 1]) :: (RowE (α := Int) own 3 v57 evB.deps) :: (RowE (α := Int) own 3 v39 evA.deps) :: (RowE (α := Int) own 3 v21 evA.deps) :: (RowE (α := Int) own 3 v4 evB.deps) :: Rs) w177 := hS184.sel 10 [2, 0, 1, 3, 4, 5, 6, 7, 8, 9] (Nat.le_add_left _ _) rfl rfl
 obtain ⟨G188, hA190, hB191, hS192, hk193⟩ := hS187.lend
 have hrd194 := RowE.rd hA190
 have hrd194s : [1, 0].length * 8 ≤ 140737488355328 := hrd194.small
 have hS195 : Sep G188 w177 ((RowE (α := Int) own 3 v89 (vecE 2 [evA, evB])) :: (Blk b176 (evB.cells v171).toArray 36) :: (SetO b1 2 [evA, evB]) :: (RowE (α := Ev) own 36 v165 (missL [evA, evB] [1, 0] 5)) :: (RowE (α := Int) own 3 (.slice (some ⟨b95, 0, none⟩) 2 2) [1, 1]) :: (RowE (α := Int) own 3 v57 evB.deps) :: (RowE (α := Int) own 3 v39 evA.deps) :: (RowE (α := Int) own 3 v21 evA.deps) :: (RowE (α := Int) own 3 v4 evB.deps) :: Rs) w177 := hS192.sel 9 [3, 0, 1, 2, 4, 5, 6, 7, 8] (Nat.le_add_left _ _) rfl rfl
 obtain ⟨G196, hA198, hB199, hS200, hk201⟩ := hS195.lend
 have hrd202 := RowE.rd hA198
 have hrd202s : (vecE 2 [evA, evB]).length * 8 ≤ 140737488355328 := hrd202.small
 have hS203 : Sep G196 w177 ((RowE (α := Int) own 3 (.slice (some ⟨b95, 0, none⟩) 2 2) [1, 1]) :: (Blk b176 (evB.cells v171).toArray 36) :: (SetO b1 2 [evA, evB]) :: (RowE (α := Ev) own 36 v165 (missL [evA, evB] [1, 0] 5)) :: (RowE (α := Int) own 3 v57 evB.deps) :: (RowE (α := Int) own 3 v39 evA.deps) :: (RowE (α := Int) own 3 v21 evA.deps) :: (RowE (α := Int) own 3 v4 evB.deps) :: Rs) w177 := hS200.sel 8 [3, 0, 1, 2, 4, 5, 6, 7] (Nat.le_add_left _ _) rfl rfl
 obtain ⟨G204, hA206, hB207, hS208, hk209⟩ := hS203.lend
 have hrd210 := RowE.rd hA206
 have hrd210s : [1, 1].length * 8 ≤ 140737488355328 := hrd210.small
 have hS211 : Sep G204 w177 ((RowE (α := Int) own 3 v57 evB.deps) :: (Blk b176 (evB.cells v171).toArray 36) :: (SetO b1 2 [evA, evB]) :: (RowE (α := Ev) own 36 v165 (missL [evA, evB] [1, 0] 5)) :: (RowE (α := Int) own 3 v39 evA.deps) :: (RowE (α := Int) own 3 v21 evA.deps) :: (RowE (α := Int) own 3 v4 evB.deps) :: Rs) w177 := hS208.sel 7 [3, 0, 1, 2, 4, 5, 6] (Nat.le_add_left _ _) rfl rfl
 obtain ⟨G212, hA214, hB215, hS216, hk217⟩ := hS211.lend
 have hrd218 := RowE.rd hA214
 have hrd218s : evB.deps.length * 8 ≤ 140737488355328 := hrd218.small
 have hS219 : Sep G212 w177 ((RowE (α := Int) own 3 v39 evA.deps) :: (Blk b176 (evB.cells v171).toArray 36) :: (SetO b1 2 [evA, evB]) :: (RowE (α := Ev) own 36 v165 (missL [evA, evB] [1, 0] 5)) :: (RowE (α := Int) own 3 v21 evA.deps) :: (RowE (α := Int) own 3 v4 evB.deps) :: Rs) w177 := hS216.sel 6 [3, 0, 1, 2, 4, 5] (Nat.le_add_left _ _) rfl rfl
 obtain ⟨G220, hA222, hB223, hS224, hk225⟩ := hS219.lend
 have hrd226 := RowE.rd hA222
 have hrd226s : evA.deps.length * 8 ≤ 140737488355328 := hrd226.small
 have hS227 : Sep G220 w177 ((RowE (α := Int) own 3 v21 evA.deps) :: (Blk b176 (evB.cells v171).toArray 36) :: (SetO b1 2 [evA, evB]) :: (RowE (α := Ev) own 36 v165 (missL [evA, evB] [1, 0] 5)) :: (RowE (α := Int) own 3 v4 evB.deps) :: Rs) w177 := hS224.sel 5 [3, 0, 1, 2, 4] (Nat.le_add_left _ _) rfl rfl
 obtain ⟨G228, hA230, hB231, hS232, hk233⟩ := hS227.lend
 have hrd234 := RowE.rd hA230
 have hrd234s : evA.deps.length * 8 ≤ 140737488355328 := hrd234.small
 have hS235 : Sep G228 w177 ((RowE (α := Int) own 3 v4 evB.deps) :: (Blk b176 (evB.cells v171).toArray 36) :: (SetO b1 2 [evA, evB]) :: (RowE (α := Ev) own 36 v165 (missL [evA, evB] [1, 0] 5)) :: Rs) w177 := hS232.sel 4 [3, 0, 1, 2] (Nat.le_add_left _ _) rfl rfl
 obtain ⟨G236, hA238, hB239, hS240, hk241⟩ := hS235.lend
 have hrd242 := RowE.rd hA238
 have hrd242s : evB.deps.length * 8 ≤ 140737488355328 := hrd242.small
 have hS243 : Sep G236 w177 ((RowE (α := Ev) own 36 v165 (missL [evA, evB] [1, 0] 5)) :: (Blk b176 (evB.cells v171).toArray 36) :: (SetO b1 2 [evA, evB]) :: Rs) w177 := hS240.sel 3 [2, 0, 1] (Nat.le_add_left _ _) rfl rfl
 obtain ⟨G244, hA246, hB247, hS248, hk249⟩ := hS243.lend
 have hrd250 := RowE.rd hA246
 have hrd250s : (missL [evA, evB] [1, 0] 5).length * 96 ≤ 140737488355328 := hrd250.small
 have hS251 : Sep G244 w177 ((RowE (α := Ev) (shr G244 w177) 36 (.slice (some ⟨b176, 0, none⟩) 1 1) [evB]) :: (SetO b1 2 [evA, evB]) :: Rs) w177 := Sep.blkRow (src := (shr G244 w177)) (l := [evB]) (css := [evB.cells v171]) hS248 rfl ⟨fun _ _ => ⟨_, rfl, (RdS.base (RdS.base (RdS.base (RdS.base (RdS.base (RdS.base (RdS.base (RdS.base hrd186 hB191) hB199) hB207) hB215) hB223) hB231) hB239) hB247), evB_ok⟩, trivial⟩ (by first | decide | (simp only [List.length_cons, List.length_nil]; decide))
 have hr252 := hS251.row (i := 0) rfl
 have hr252s : [evB].length * 96 ≤ 140737488355328 := hr252.2
 obtain ⟨G253, hA255, hB256, hS257, hk258⟩ := hS251.lend
 have hrd259 := RowE.rdB hA255 hB256
 have hrd259s : [evB].length * 96 ≤ 140737488355328 := hrd259.small
 refine sty rfl rfl (ov_call (f := 22) (vals := [v165, (.slice (some ⟨b176, 0, none⟩) 1 1)]) (cap := []) (show _ = (.func (.func 22) #[] #[] : Value) from rfl) rfl Try.call22 (D_sameEvents (a := missL [evA, evB] [1, 0] 5) (va := v165) (b := [evB]) (vb := (.slice (some ⟨b176, 0, none⟩) 1 1)) (RdS.base hrd250 hB256) hrd259 hS257) ?_)
 rintro _ w260 ⟨rfl, hS261⟩
 have hS262 : Sep G244 w177 ((RowE (α := Ev) (shr G244 w177) 36 (.slice (some ⟨b176, 0, none⟩) 1 1) [evB]) :: (SetO b1 2 [evA, evB]) :: Rs) w260 := hk258 _ _ hS261
 have hS263 : Sep G236 w177 ((RowE (α := Ev) own 36 v165 (missL [evA, evB] [1, 0] 5)) :: (RowE (α := Ev) (shr G244 w177) 36 (.slice (some ⟨b176, 0, none⟩) 1 1) [evB]) :: (SetO b1 2 [evA, evB]) :: Rs) w260 := hk249 _ _ hS262
 have hS264 : Sep G236 w177 ((RowE (α := Ev) own 36 v165 (missL [evA, evB] [1, 0] 5)) :: (SetO b1 2 [evA, evB]) :: Rs) w260 := hS263.sel 3 [0, 2] (Nat.le_add_left _ _) rfl rfl
 have hkn265 : (decide ((missL [evA, evB] [1, 0] 5) = [evB])) = true := (by decide +kernel)
 rw [hkn265]
 refine st (ov_pick_t (v := .bool true) rfl rfl ?_)
 refine st (ov_assign (v := .bool true) rfl ?_)
 refine st_nil ?_
 refine WP_ret ?_
 refine fin1 Try.results16 (show _ = (.bool true : Value) from rfl) ?_
 have hS266 : Sep G228 w177 ((RowE (α := Int) own 3 v4 evB.deps) :: (RowE (α := Ev) own 36 v165 (missL [evA, evB] [1, 0] 5)) :: (SetO b1 2 [evA, evB]) :: Rs) w260 := hk241 _ _ hS264
 have hS267 : Sep G220 w177 ((RowE (α := Int) own 3 v21 evA.deps) :: (RowE (α := Int) own 3 v4 evB.deps) :: (RowE (α := Ev) own 36 v165 (missL [evA, evB] [1, 0] 5)) :: (SetO b1 2 [evA, evB]) :: Rs) w260 := hk233 _ _ hS266
 have hS268 : Sep G212 w177 ((RowE (α := Int) own 3 v39 evA.deps) :: (RowE (α := Int) own 3 v21 evA.deps) :: (RowE (α := Int) own 3 v4 evB.deps) :: (RowE (α := Ev) own 36 v165 (missL [evA, evB] [1, 0] 5)) :: (SetO b1 2 [evA, evB]) :: Rs) w260 := hk225 _ _ hS267
 have hS269 : Sep G204 w177 ((RowE (α := Int) own 3 v57 evB.deps) :: (RowE (α := Int) own 3 v39 evA.deps) :: (RowE (α := Int) own 3 v21 evA.deps) :: (RowE (α := Int) own 3 v4 evB.deps) :: (RowE (α := Ev) own 36 v165 (missL [evA, evB] [1, 0] 5)) :: (SetO b1 2 [evA, evB]) :: Rs) w260 := hk217 _ _ hS268
 have hS270 : Sep G196 w177 ((RowE (α := Int) own 3 (.slice (some ⟨b95, 0, none⟩) 2 2) [1, 1]) :: (RowE (α := Int) own 3 v57 evB.deps) :: (RowE (α := Int) own 3 v39 evA.deps) :: (RowE (α := Int) own 3 v21 evA.deps) :: (RowE (α := Int) own 3 v4 evB.deps) :: (RowE (α := Ev) own 36 v165 (missL [evA, evB] [1, 0] 5)) :: (SetO b1 2 [evA, evB]) :: Rs) w260 := hk209 _ _ hS269
 have hS271 : Sep G188 w177 ((RowE (α := Int) own 3 v89 (vecE 2 [evA, evB])) :: (RowE (α := Int) own 3 (.slice (some ⟨b95, 0, none⟩) 2 2) [1, 1]) :: (RowE (α := Int) own 3 v57 evB.deps) :: (RowE (α := Int) own 3 v39 evA.deps) :: (RowE (α := Int) own 3 v21 evA.deps) :: (RowE (α := Int) own 3 v4 evB.deps) :: (RowE (α := Ev) own 36 v165 (missL [evA, evB] [1, 0] 5)) :: (SetO b1 2 [evA, evB]) :: Rs) w260 := hk201 _ _ hS270
 have hS272 : Sep G180 w177 ((RowE (α := Int) own 3 (.slice (some ⟨b139, 0, none⟩) 2 2) [1, 0]) :: (RowE (α := Int) own 3 v89 (vecE 2 [evA, evB])) :: (RowE (α := Int) own 3 (.slice (some ⟨b95, 0, none⟩) 2 2) [1, 1]) :: (RowE (α := Int) own 3 v57 evB.deps) :: (RowE (α := Int) own 3 v39 evA.deps) :: (RowE (α := Int) own 3 v21 evA.deps) :: (RowE (α := Int) own 3 v4 evB.deps) :: (RowE (α := Ev) own 36 v165 (missL [evA, evB] [1, 0] 5)) :: (SetO b1 2 [evA, evB]) :: Rs) w260 := hk193 _ _ hS271
 have hS273 : Sep G W ((RowE (α := Int) own 3 v171 evB.deps) :: (RowE (α := Int) own 3 (.slice (some ⟨b139, 0, none⟩) 2 2) [1, 0]) :: (RowE (α := Int) own 3 v89 (vecE 2 [evA, evB])) :: (RowE (α := Int) own 3 (.slice (some ⟨b95, 0, none⟩) 2 2) [1, 1]) :: (RowE (α := Int) own 3 v57 evB.deps) :: (RowE (α := Int) own 3 v39 evA.deps) :: (RowE (α := Int) own 3 v21 evA.deps) :: (RowE (α := Int) own 3 v4 evB.deps) :: (RowE (α := Ev) own 36 v165 (missL [evA, evB] [1, 0] 5)) :: (SetO b1 2 [evA, evB]) :: Rs) w260 := hk185 _ _ hS272
 have hS274 : Sep G W Rs w260 := hS273.sel 10 [] (Nat.le_add_left _ _) rfl rfl
 refine ⟨rfl, hS274⟩

end Go.Proofs.Ytgjgmojjeehieaa
