/- Texts of this claim, part 13. -/
import Derived.Test.YtmiihhbeclhaoaaW12
set_option linter.unusedSimpArgs false
set_option linter.unusedVariables false
set_option linter.unusedSectionVars false
section
/- Steps of the proofs of this seat: part E1. -/
set_option linter.unusedSimpArgs false
set_option linter.unusedVariables false
set_option maxRecDepth 8000
set_option maxHeartbeats 4000000
namespace Go.Proofs.Ytmiihhbeclhaoaa
open Go.Proofs Go.RowKit

def evO : Ev := ⟨0, 1, 1, [0, 0], 0, 0, 0, 1, 1, 0⟩
def evT : Ev := ⟨1, 1, 2, [1, 0], 0, 0, 0, 1, 1, 0⟩
theorem evO_ok : evO.Ok := by constructor <;> decide
theorem evT_ok : evT.Ok := by constructor <;> decide
theorem kb1 : bAddL (max 0 (min 5 256)) [] evT = [evT] := by decide +kernel
theorem kb2 : bAddL (max 0 (min 5 256)) [evT] evT = [evT] := by decide +kernel
theorem kb3 : rdyO 2 [] ([evT].filter fun x => !hadE [] x) = [] := by decide +kernel
theorem kb4 : rdyB 2 [] ([evT].filter fun x => !hadE [] x) = [evT] := by decide +kernel
theorem kb5 : bAddL (max 0 (min 5 256)) [evT] evO = [evO, evT] := by decide +kernel
theorem kb6 : rdyO 2 [] ([evO, evT].filter fun x => !hadE [] x) = [evO, evT] := by decide +kernel
theorem kb7 : rdyB 2 [] ([evO, evT].filter fun x => !hadE [] x) = [] := by decide +kernel
theorem srt1 {e : Ev} : Srt [e] := List.pairwise_singleton _ _
def befE (l : List Ev) (i : Nat) : Bool := (l.take i).any fun x => sameId x (l.getD i default)
theorem bef_yes {l : List Ev} {i k : Nat} (hk : k < i) (hi : i < l.length) (h : sameId (l.getD k default) (l.getD i default) = true) : befE l i = true := by
  unfold befE
  rw [List.any_eq_true]
  refine ⟨l.getD k default, ?_, h⟩
  rw [getD_at _ (by omega)]
  exact List.mem_take_iff_getElem.2 ⟨k, by omega, rfl⟩
theorem bef_no {l : List Ev} {i : Nat} (hi : i < l.length) (h : ∀ k, k < i → sameId (l.getD k default) (l.getD i default) = false) : befE l i = false := by
  unfold befE
  rw [List.any_eq_false]
  intro x hx
  obtain ⟨k, hk, rfl⟩ := List.mem_take_iff_getElem.1 hx
  have := h k (by omega)
  rw [getD_at _ (by omega : k < l.length)] at this
  rw [this]; decide
theorem D_one {G : Nat → Prop} {W w : World} {Rs : List HP}  (hS0 : Sep G W Rs w) : Ret Try.prog 34 [] w (fun r w' => ∃ (v : Value), r = (.agg (evO.cells v).toArray : Value) ∧ Sep G W ((RowE (α := Int) own 3 v evO.deps) :: Rs) w') := by
 refine Calls_of_WP (args := []) Try.func34 rfl rfl ?_
 refine WP_seq ?_
 refine WP_region0 (by kernel_rfl) (fun _ => ?_)
 refine st (ov_alloc Try.zeroValue36 ?_)
 intro w3 b2 hn1
 have hS4 : Sep G W ((Blk b2 #[.int .i64 (0), .int .i64 (0), .int .i64 (0), (.slice none 0 0), .int .i64 (0), .int .i64 (0), .int .i64 (0), .int .i64 (0), .int .i64 (0), .int .i64 (0)] 36) :: Rs) w3 := hS0.new hn1
 refine st_nil ?_
 refine WP_seq ?_
 refine WP_region0 (by kernel_rfl) (fun _ => ?_)
 refine st (ov_build (parts' := [(0, .int .i64 (0)), (1, .int .i64 (1))]) (v := .agg #[.int .i64 (0), .int .i64 (1)]) rfl (by simp [Instr.build, Instr.fill, go_sem, Ev.cells]) ?_)
 refine st (ov_buildSlice (k := 1) (parts' := [(0, .int .i64 (0)), (1, .int .i64 (0))]) (c := #[.int .i64 (0), .int .i64 (0)]) Try.underlying34 Try.sizeOf3 Try.zeroValue3 (by decide) rfl (by kernel_rfl) ?_)
 intro w7 b6 hn5
 have hS8 : Sep G W ((Blk b6 #[.int .i64 (0), .int .i64 (0)] 3) :: (Blk b2 #[.int .i64 (0), .int .i64 (0), .int .i64 (0), (.slice none 0 0), .int .i64 (0), .int .i64 (0), .int .i64 (0), .int .i64 (0), .int .i64 (0), .int .i64 (0)] 36) :: Rs) w7 := hS4.new hn5
 have hS9 : Sep G W ((RowE (α := Int) own 3 (.slice (some ⟨b6, 0, none⟩) 2 2) [0, 0]) :: (Blk b2 #[.int .i64 (0), .int .i64 (0), .int .i64 (0), (.slice none 0 0), .int .i64 (0), .int .i64 (0), .int .i64 (0), .int .i64 (0), .int .i64 (0), .int .i64 (0)] 36) :: Rs) w7 := Sep.blkRow (src := own) (l := [0, 0]) (css := [[.int .i64 (0)], [.int .i64 (0)]]) hS8 rfl ⟨fun _ _ => ⟨rfl, (by decide)⟩, fun _ _ => ⟨rfl, (by decide)⟩, trivial⟩ (by first | decide | (simp only [List.length_cons, List.length_nil]; decide))
 have hr10 := hS9.row (i := 0) rfl
 have hr10s : [0, 0].length * 8 ≤ 140737488355328 := hr10.2
 have ok11 : Ev.Ok (⟨0, 1, 1, [0, 0], 0, 0, 0, 1, 1, 0⟩ : Ev) := ⟨(show InR (0) from (by decide)), (show InR (1) from (by decide)), (show InR (1) from (by decide)), (show InR (0) from (by decide)), (show InR (0) from (by decide)), (show InR (0) from (by decide)), (show InR (1) from (by decide)), (show InR (1) from (by decide)), (show InR (0) from (by decide))⟩
 refine st (ov_build (parts' := [(0, .agg #[.int .i64 (0), .int .i64 (1)]), (1, .int .i64 (1)), (2, (.slice (some ⟨b6, 0, none⟩) 2 2)), (6, .int .i64 (1)), (7, .int .i64 (1))]) (v := .agg ((⟨0, 1, 1, [0, 0], 0, 0, 0, 1, 1, 0⟩ : Ev).cells (.slice (some ⟨b6, 0, none⟩) 2 2)).toArray) rfl (by simp [Instr.build, Instr.fill, go_sem, Ev.cells]) ?_)
 refine stn (ov_store (v := .agg ((⟨0, 1, 1, [0, 0], 0, 0, 0, 1, 1, 0⟩ : Ev).cells (.slice (some ⟨b6, 0, none⟩) 2 2)).toArray) (c' := ((⟨0, 1, 1, [0, 0], 0, 0, 0, 1, 1, 0⟩ : Ev).cells (.slice (some ⟨b6, 0, none⟩) 2 2)).toArray) Try.sizeOf36 rfl rfl (hS9.blk (i := 1) rfl) (all1 ⟨rfl, rfl, rfl, rfl, rfl, rfl, rfl, rfl, rfl, rfl, trivial⟩) (Nat.le_of_ble_eq_true rfl) rfl ?_)
 intro w12 hp13
 have hS14 : Sep G W ((RowE (α := Int) own 3 (.slice (some ⟨b6, 0, none⟩) 2 2) [0, 0]) :: (Blk b2 ((⟨0, 1, 1, [0, 0], 0, 0, 0, 1, 1, 0⟩ : Ev).cells (.slice (some ⟨b6, 0, none⟩) 2 2)).toArray 36) :: Rs) w12 := hS9.put (i := 1) rfl hp13
 refine st_nil ?_
 refine WP_ret ?_
 refine finc (b := b2) Try.results34 Try.isAgg36 Try.sizeOf36 rfl rfl (CellsAt.all (hS14.blk (i := 1) rfl)) ?_
 have hS15 : Sep G W ((RowE (α := Int) own 3 (.slice (some ⟨b6, 0, none⟩) 2 2) [0, 0]) :: Rs) w12 := hS14.sel 2 [0] (Nat.le_add_left _ _) rfl rfl
 refine ⟨(.slice (some ⟨b6, 0, none⟩) 2 2), rfl, hS15⟩

theorem D_two {G : Nat → Prop} {W w : World} {Rs : List HP}  (hS0 : Sep G W Rs w) : Ret Try.prog 33 [] w (fun r w' => ∃ (v : Value), r = (.agg (evT.cells v).toArray : Value) ∧ Sep G W ((RowE (α := Int) own 3 v evT.deps) :: Rs) w') := by
 refine Calls_of_WP (args := []) Try.func33 rfl rfl ?_
 refine WP_seq ?_
 refine WP_region0 (by kernel_rfl) (fun _ => ?_)
 refine st (ov_alloc Try.zeroValue36 ?_)
 intro w3 b2 hn1
 have hS4 : Sep G W ((Blk b2 #[.int .i64 (0), .int .i64 (0), .int .i64 (0), (.slice none 0 0), .int .i64 (0), .int .i64 (0), .int .i64 (0), .int .i64 (0), .int .i64 (0), .int .i64 (0)] 36) :: Rs) w3 := hS0.new hn1
 refine st_nil ?_
 refine WP_seq ?_
 refine WP_region0 (by kernel_rfl) (fun _ => ?_)
 refine st (ov_build (parts' := [(0, .int .i64 (1)), (1, .int .i64 (1))]) (v := .agg #[.int .i64 (1), .int .i64 (1)]) rfl (by simp [Instr.build, Instr.fill, go_sem, Ev.cells]) ?_)
 refine st (ov_buildSlice (k := 1) (parts' := [(0, .int .i64 (1)), (1, .int .i64 (0))]) (c := #[.int .i64 (1), .int .i64 (0)]) Try.underlying34 Try.sizeOf3 Try.zeroValue3 (by decide) rfl (by kernel_rfl) ?_)
 intro w7 b6 hn5
 have hS8 : Sep G W ((Blk b6 #[.int .i64 (1), .int .i64 (0)] 3) :: (Blk b2 #[.int .i64 (0), .int .i64 (0), .int .i64 (0), (.slice none 0 0), .int .i64 (0), .int .i64 (0), .int .i64 (0), .int .i64 (0), .int .i64 (0), .int .i64 (0)] 36) :: Rs) w7 := hS4.new hn5
 have hS9 : Sep G W ((RowE (α := Int) own 3 (.slice (some ⟨b6, 0, none⟩) 2 2) [1, 0]) :: (Blk b2 #[.int .i64 (0), .int .i64 (0), .int .i64 (0), (.slice none 0 0), .int .i64 (0), .int .i64 (0), .int .i64 (0), .int .i64 (0), .int .i64 (0), .int .i64 (0)] 36) :: Rs) w7 := Sep.blkRow (src := own) (l := [1, 0]) (css := [[.int .i64 (1)], [.int .i64 (0)]]) hS8 rfl ⟨fun _ _ => ⟨rfl, (by decide)⟩, fun _ _ => ⟨rfl, (by decide)⟩, trivial⟩ (by first | decide | (simp only [List.length_cons, List.length_nil]; decide))
 have hr10 := hS9.row (i := 0) rfl
 have hr10s : [1, 0].length * 8 ≤ 140737488355328 := hr10.2
 have ok11 : Ev.Ok (⟨1, 1, 2, [1, 0], 0, 0, 0, 1, 1, 0⟩ : Ev) := ⟨(show InR (1) from (by decide)), (show InR (1) from (by decide)), (show InR (2) from (by decide)), (show InR (0) from (by decide)), (show InR (0) from (by decide)), (show InR (0) from (by decide)), (show InR (1) from (by decide)), (show InR (1) from (by decide)), (show InR (0) from (by decide))⟩
 refine st (ov_build (parts' := [(0, .agg #[.int .i64 (1), .int .i64 (1)]), (1, .int .i64 (2)), (2, (.slice (some ⟨b6, 0, none⟩) 2 2)), (6, .int .i64 (1)), (7, .int .i64 (1))]) (v := .agg ((⟨1, 1, 2, [1, 0], 0, 0, 0, 1, 1, 0⟩ : Ev).cells (.slice (some ⟨b6, 0, none⟩) 2 2)).toArray) rfl (by simp [Instr.build, Instr.fill, go_sem, Ev.cells]) ?_)
 refine stn (ov_store (v := .agg ((⟨1, 1, 2, [1, 0], 0, 0, 0, 1, 1, 0⟩ : Ev).cells (.slice (some ⟨b6, 0, none⟩) 2 2)).toArray) (c' := ((⟨1, 1, 2, [1, 0], 0, 0, 0, 1, 1, 0⟩ : Ev).cells (.slice (some ⟨b6, 0, none⟩) 2 2)).toArray) Try.sizeOf36 rfl rfl (hS9.blk (i := 1) rfl) (all1 ⟨rfl, rfl, rfl, rfl, rfl, rfl, rfl, rfl, rfl, rfl, trivial⟩) (Nat.le_of_ble_eq_true rfl) rfl ?_)
 intro w12 hp13
 have hS14 : Sep G W ((RowE (α := Int) own 3 (.slice (some ⟨b6, 0, none⟩) 2 2) [1, 0]) :: (Blk b2 ((⟨1, 1, 2, [1, 0], 0, 0, 0, 1, 1, 0⟩ : Ev).cells (.slice (some ⟨b6, 0, none⟩) 2 2)).toArray 36) :: Rs) w12 := hS9.put (i := 1) rfl hp13
 refine st_nil ?_
 refine WP_ret ?_
 refine finc (b := b2) Try.results33 Try.isAgg36 Try.sizeOf36 rfl rfl (CellsAt.all (hS14.blk (i := 1) rfl)) ?_
 have hS15 : Sep G W ((RowE (α := Int) own 3 (.slice (some ⟨b6, 0, none⟩) 2 2) [1, 0]) :: Rs) w12 := hS14.sel 2 [0] (Nat.le_add_left _ _) rfl rfl
 refine ⟨(.slice (some ⟨b6, 0, none⟩) 2 2), rfl, hS15⟩

theorem D_before {G : Nat → Prop} {W w : World} {Rs : List HP} {vl : Value} {l : List Ev} (hl : RdS W G vl l) {i : Nat} (hi : i < l.length) (hS0 : Sep G W Rs w) : Ret Try.prog 16 [vl, .int .i64 ((i : Nat) : Int)] w (fun r w' => r = (.bool ((befE l i)) : Value) ∧ Sep G W Rs w') := by
 have hls : l.length * 96 ≤ 140737488355328 := hl.small
 refine Calls_of_WP (args := [vl, .int .i64 ((i : Nat) : Int)]) Try.func16 rfl rfl ?_
 refine WP_seq ?_
 refine WP_region0 (by kernel_rfl) (fun _ => ?_)
 refine st (ov_assign (v := .bool false) rfl ?_)
 refine st_nil ?_
 refine WP_seq ?_
 refine WP_seq ?_
 refine WP_region0 (by kernel_rfl) (fun _ => ?_)
 refine st (ov_assign (v := .int .i64 (0)) rfl ?_)
 refine st_nil ?_
 refine WP_block ?_
 refine WP_loop (fun mq σ wq => ∃ (k : Nat) (ρ : Env), mq = i - k ∧ σ = setAll ρ [(0, vl), (1, .int .i64 ((i : Nat) : Int)), (5, .int .i64 ((k : Nat) : Int))] ∧ (k ≤ i) ∧ (∀ j, j < k → sameId (l.getD j default) (l.getD i default) = false) ∧ Sep G W Rs wq) ⟨0, _, rfl, setAll_self ⟨rfl, rfl, rfl, trivial⟩, Nat.zero_le _, (fun j h => absurd h (Nat.not_lt_zero j)), hS0⟩ ?_
 rintro m2 σ3 w1 ⟨k, ρl1, rfl, rfl, hkk, hm, hS4⟩
 refine WP_seq ?_
 refine WP_seq ?_
 refine WP_region0 (by kernel_rfl) (fun _ => ?_)
 refine st (ov_move (v := .int .i64 ((k : Nat) : Int)) rfl ?_)
 refine st (ov_move (v := .int .i64 ((i : Nat) : Int)) rfl ?_)
 refine st (ov_lss (k := .i64) (a := ((k : Nat) : Int)) (b := ((i : Nat) : Int)) rfl rfl ?_)
 refine st_nil ?_
 cases hc5 : decide (((k : Nat) : Int) < ((i : Nat) : Int))
 ·skip
  have hc5r := hc5
  have hc5 := of_decide_eq_false hc5
  refine WP_cond_f rfl ?_
  refine WP_exit ?_
  refine blk_exit ?_
  refine WP_seq ?_
  refine WP_region0 (by kernel_rfl) (fun _ => ?_)
  refine st (ov_assign (v := .bool false) rfl ?_)
  refine st_nil ?_
  refine WP_ret ?_
  refine fin1 Try.results16 (show _ = (.bool false : Value) from rfl) ?_
  refine ⟨?_, hS4⟩
  rw [bef_no hi (fun j hj => hm j (by omega))]
 ·skip
  have hc5r := hc5
  have hc5 := of_decide_eq_true hc5
  refine WP_cond_t rfl ?_
  refine WP_skip ?_
  refine WP_seq ?_
  refine WP_block ?_
  refine WP_seq ?_
  refine WP_draw4 (WF [fun vals wq => Sep G W Rs wq]) (AF [Vl 0 (vl), Vl 1 (.int .i64 ((k : Nat) : Int)), Vl 2 (.pointer (some ⟨sb vl, so vl + k * 10, none⟩)), Vl 3 (.pointer (some ⟨sb vl, so vl + k * 10, none⟩)), Vl 4 (.agg #[.int .i64 ((l.getD k default).origin), .int .i64 ((l.getD k default).seq)]), Vl 5 (vl), Vl 6 (.int .i64 ((i : Nat) : Int)), Vl 7 (.pointer (some ⟨sb vl, so vl + i * 10, none⟩)), Vl 8 (.pointer (some ⟨sb vl, so vl + i * 10, none⟩)), Vl 9 (.agg #[.int .i64 ((l.getD i default).origin), .int .i64 ((l.getD i default).seq)]), Vl 10 (.bool (decide ((l.getD k default).origin = (l.getD i default).origin ∧ (l.getD k default).seq = (l.getD i default).seq)))]) [[], [], [0, 1], [0, 1, 2], [0, 1, 2, 3], [], [], [5, 6], [5, 6, 7], [5, 6, 7, 8], [0, 1, 2, 3, 4, 5, 6, 7, 8, 9]] [] [(0, 0), (0, 0), (0, 0), (0, 0), (0, 0), (0, 0), (0, 0), (0, 0), (0, 0), (0, 0), (0, 0)] (by kernel_rfl) (by kernel_rfl) (by kernel_rfl) rfl (by kernel_rfl) (by kernel_rfl) (fun _ h1 h2 h3 h4 _ => hS4.same h1 h2 h3 h4) ?_ (AF_loc ⟨dA, dA, dA, dA, dA, dA, dA, dA, dA, dA, dA, trivial⟩) ⟨?_, ?_, ?_, ?_, ?_, ?_, ?_, ?_, ?_, ?_, ?_, trivial⟩ ?_
  ·intro k vals vals' w hv h
   match k, h with
   | 0, h => exact h
   | _ + 1, _ => trivial
  ·intro k97 vals w98 h101 h102 hW100 hA99
   refine obl rfl ?_
   exact ov_move (v := vl) rfl (fun vals' hv _ => ⟨rfl, hv⟩)
  ·intro k103 vals w104 h107 h108 hW106 hA105
   refine obl rfl ?_
   exact ov_move (v := .int .i64 ((k : Nat) : Int)) rfl (fun vals' hv _ => ⟨rfl, hv⟩)
  ·intro k109 vals w110 h113 h114 hW112 hA111
   obtain rfl : k109 = 0 := Nat.le_antisymm h114 h113
   have hS115 : Sep G W Rs w110 := hW112
   have e116 := hA111 0 (by decide)
   have e117 := hA111 1 (by decide)
   refine obl rfl ?_
   have hi118 : k < l.length := (by first | omega | (simp only [lens]; omega))
   exact ov_indexAddrN (k := 10) (i := k) Try.underlying22 Try.sizeOf36 e116 hl.sl e117 hi118 (fun vals' hv _ => ⟨rfl, hv⟩)
  ·intro k119 vals w120 h123 h124 hW122 hA121
   have e125 := hA121 2 (by decide)
   refine obl rfl ?_
   exact fd36_0 e125 (fun vals' hv _ => ⟨rfl, hv⟩)
  ·intro k126 vals w127 h130 h131 hW129 hA128
   obtain rfl : k126 = 0 := Nat.le_antisymm h131 h130
   have hS132 : Sep G W Rs w127 := hW129
   have e133 := hA128 3 (by decide)
   refine obl rfl ?_
   have hi135 : k < l.length := (by first | omega | (simp only [lens]; omega))
   obtain ⟨hce134, hde134_0, hoke134⟩ := hl.ev hi135
   rw [← getD_at default hi135] at hce134 hde134_0 hoke134
   have hsm136 : ((l.getD k default).deps).length * 8 ≤ 140737488355328 := hde134_0.small
   have hcw137 := hS132.cells hce134 (hl.foot (ne_of_lt hi135))
   exact ov_loadk (k := 2) (cs := [.int .i64 ((l.getD k default).origin), .int .i64 ((l.getD k default).seq)]) Try.isAgg33 Try.sizeOf33 rfl e133 (CellsAt.sub hcw137 0 (cs2 := [.int .i64 ((l.getD k default).origin), .int .i64 ((l.getD k default).seq)]) rfl) (fun vals' hv _ => ⟨rfl, hv⟩)
  ·intro k138 vals w139 h142 h143 hW141 hA140
   refine obl rfl ?_
   exact ov_move (v := vl) rfl (fun vals' hv _ => ⟨rfl, hv⟩)
  ·intro k144 vals w145 h148 h149 hW147 hA146
   refine obl rfl ?_
   exact ov_move (v := .int .i64 ((i : Nat) : Int)) rfl (fun vals' hv _ => ⟨rfl, hv⟩)
  ·intro k150 vals w151 h154 h155 hW153 hA152
   obtain rfl : k150 = 0 := Nat.le_antisymm h155 h154
   have hS156 : Sep G W Rs w151 := hW153
   have e157 := hA152 5 (by decide)
   have e158 := hA152 6 (by decide)
   refine obl rfl ?_
   have hi159 : i < l.length := (by first | omega | (simp only [lens]; omega))
   exact ov_indexAddrN (k := 10) (i := i) Try.underlying22 Try.sizeOf36 e157 hl.sl e158 hi159 (fun vals' hv _ => ⟨rfl, hv⟩)
  ·intro k160 vals w161 h164 h165 hW163 hA162
   have e166 := hA162 7 (by decide)
   refine obl rfl ?_
   exact fd36_0 e166 (fun vals' hv _ => ⟨rfl, hv⟩)
  ·intro k167 vals w168 h171 h172 hW170 hA169
   obtain rfl : k167 = 0 := Nat.le_antisymm h172 h171
   have hS173 : Sep G W Rs w168 := hW170
   have e174 := hA169 8 (by decide)
   refine obl rfl ?_
   have hi176 : i < l.length := (by first | omega | (simp only [lens]; omega))
   obtain ⟨hce175, hde175_0, hoke175⟩ := hl.ev hi176
   rw [← getD_at default hi176] at hce175 hde175_0 hoke175
   have hsm177 : ((l.getD i default).deps).length * 8 ≤ 140737488355328 := hde175_0.small
   have hcw178 := hS173.cells hce175 (hl.foot (ne_of_lt hi176))
   exact ov_loadk (k := 2) (cs := [.int .i64 ((l.getD i default).origin), .int .i64 ((l.getD i default).seq)]) Try.isAgg33 Try.sizeOf33 rfl e174 (CellsAt.sub hcw178 0 (cs2 := [.int .i64 ((l.getD i default).origin), .int .i64 ((l.getD i default).seq)]) rfl) (fun vals' hv _ => ⟨rfl, hv⟩)
  ·intro k179 vals w180 h183 h184 hW182 hA181
   obtain rfl : k179 = 0 := Nat.le_antisymm h184 h183
   have hS185 : Sep G W Rs w180 := hW182
   have e186 := hA181 4 (by decide)
   have e187 := hA181 9 (by decide)
   refine obl rfl ?_
   exact ov_eqlS (e := decide ((l.getD k default).origin = (l.getD i default).origin ∧ (l.getD k default).seq = (l.getD i default).seq)) (xs := #[.int .i64 ((l.getD k default).origin), .int .i64 ((l.getD k default).seq)]) (ys := #[.int .i64 ((l.getD i default).origin), .int .i64 ((l.getD i default).seq)]) eqS33 e186 e187 (fun vals' hv _ => ⟨rfl, hv⟩)
  intro vals w188 hW189 hA190
  have hS191 : Sep G W Rs w188 := hW189
  have e192 := hA190 10 (by decide)
  refine st_env (kv := [(0, vl), (1, .int .i64 ((i : Nat) : Int)), (5, .int .i64 ((k : Nat) : Int)), (6, .int .i64 ((k : Nat) : Int)), (7, .int .i64 ((i : Nat) : Int)), (8, .bool true), (21, .bool (decide ((l.getD k default).origin = (l.getD i default).origin ∧ (l.getD k default).seq = (l.getD i default).seq)))]) ⟨rfl, rfl, rfl, rfl, rfl, rfl, (by exact e192), trivial⟩ (fun ρw188 => ?_)
  refine st_nil ?_
  cases hc193 : decide ((l.getD k default).origin = (l.getD i default).origin ∧ (l.getD k default).seq = (l.getD i default).seq)
  ·skip
   have hc193r := hc193
   have hc193 := of_decide_eq_false hc193
   refine WP_cond_f rfl ?_
   refine WP_skip ?_
   refine WP_region0 (by kernel_rfl) (fun _ => ?_)
   refine st (ov_move (v := .int .i64 ((k : Nat) : Int)) rfl ?_)
   have hr194 : InR ((k + 1 : Nat) : Int) := by first | omega | (simp only [lens]; omega)
   refine st (ov_add (r := ((k + 1 : Nat) : Int)) (k := .i64) (a := ((k : Nat) : Int)) (b := 1) rfl rfl (by rw [show (((k : Nat) : Int) + 1 : Int) = ((k + 1 : Nat) : Int) by first | omega | (simp only [lens]; omega)]; exact wrap_in hr194) ?_)
   refine st (ov_assign (v := .int .i64 ((k + 1 : Nat) : Int)) rfl ?_)
   refine st_nil ?_
   exact ⟨_, by omega, k + 1, _, rfl, setAll_self ⟨rfl, rfl, rfl, trivial⟩, by omega, (all_step hm hc193r), hS191⟩
  ·skip
   have hc193r := hc193
   have hc193 := of_decide_eq_true hc193
   refine WP_cond_t rfl ?_
   refine WP_seq ?_
   refine WP_region0 (by kernel_rfl) (fun _ => ?_)
   refine st (ov_assign (v := .bool true) rfl ?_)
   refine st_nil ?_
   refine WP_ret ?_
   refine fin1 Try.results16 (show _ = (.bool true : Value) from rfl) ?_
   refine ⟨?_, hS191⟩
   rw [bef_yes (by omega) (by omega) hc193r]

theorem D_known25 {G : Nat → Prop} {W w : World} {Rs : List HP}  (hS0 : Sep G W Rs w) : Ret Try.prog 9 [] w (fun r w' => r = (.bool true : Value) ∧ Sep G W Rs w') := by
 refine Calls_of_WP (args := []) Try.func9 rfl rfl ?_
 refine WP_seq ?_
 refine WP_region0 (by kernel_rfl) (fun _ => ?_)
 refine st (ov_assign (v := .bool false) rfl ?_)
 refine st_nil ?_
 refine WP_seq ?_
 refine WP_region0 (by kernel_rfl) (fun _ => ?_)
 refine st (ov_call (f := 12) (vals := [.int .i64 (5)]) (cap := []) (show _ = (.func (.func 12) #[] #[] : Value) from rfl) rfl Try.call12 (D_bNew (x := 5) (by decide) hS0) ?_)
 rintro _ w2 ⟨b1, rfl, hS3⟩
 refine st (ov_assign (v := .pointer (some ⟨b1, 0, none⟩)) rfl ?_)
 refine st_nil ?_
 refine WP_seq ?_
 refine WP_region0 (by kernel_rfl) (fun _ => ?_)
 refine st (ov_call (f := 11) (vals := [.int .i64 (2)]) (cap := []) (show _ = (.func (.func 11) #[] #[] : Value) from rfl) rfl Try.call11 (D_NewSet (n := 2) (by first | omega | (refine ⟨?_, ?_⟩ <;> omega)) hS3) ?_)
 rintro _ w5 ⟨b4, rfl, hS6⟩
 refine st (ov_assign (v := .pointer (some ⟨b4, 0, none⟩)) rfl ?_)
 refine st_nil ?_
 refine WP_seq ?_
 refine WP_seq ?_
 refine WP_region (by kernel_rfl) ?_
 refine st (ov_move (v := .pointer (some ⟨b1, 0, none⟩)) rfl ?_)
 refine st (ov_eqlPtr (b := b1) (o := 0) Try.underlying28 rfl ?_)
 refine st (ov_move (v := .bool false) rfl ?_)
 refine sty rfl rfl (ov_move (v := .pointer (some ⟨b4, 0, none⟩)) rfl ?_)
 refine sty rfl rfl (ov_eqlPtr (b := b4) (o := 0) Try.underlying26 rfl ?_)
 refine st (ov_pick_f (v := .bool false) rfl rfl ?_)
 refine st (ov_move (v := .bool false) rfl ?_)
 refine sty rfl rfl (ov_move (v := .pointer (some ⟨b1, 0, none⟩)) rfl ?_)
 refine sty rfl rfl (ov_call (f := 33) (vals := []) (cap := []) (show _ = (.func (.func 33) #[] #[] : Value) from rfl) rfl Try.call33 (D_two  hS6) ?_)
 rintro _ w8 ⟨v7, rfl, hS9⟩
 have hr10 := hS9.row (i := 0) rfl
 have hr10s : evT.deps.length * 8 ≤ 140737488355328 := hr10.2
 obtain ⟨G11, hA13, hB14, hS15, hk16⟩ := hS9.lend
 have hrd17 := RowE.rd hA13
 have hrd17s : evT.deps.length * 8 ≤ 140737488355328 := hrd17.small
 have hS18 : Sep G11 w8 ((BufO b1 (max 0 (min 5 256)) ([] : List Ev)) :: (SetO b4 2 ([] : List Ev)) :: Rs) w8 := hS15.sel 2 [1, 0] (Nat.le_add_left _ _) rfl rfl
 refine sty rfl rfl (ov_call (f := 14) (vals := [.pointer (some ⟨b1, 0, none⟩), .agg (evT.cells v7).toArray]) (cap := []) (show _ = (.func (.func 14) #[] #[] : Value) from rfl) rfl Try.call14 (D_bAddL (e := evT) hrd17 evT_ok hS18 (by decide) (by first | exact List.Pairwise.nil | exact srt1) (by decide)) ?_)
 rintro _ w19 ⟨rfl, hS20⟩
 have hS21 : Sep G W ((RowE (α := Int) own 3 v7 evT.deps) :: (BufO b1 (max 0 (min 5 256)) (bAddL (max 0 (min 5 256)) ([] : List Ev) evT)) :: (SetO b4 2 ([] : List Ev)) :: Rs) w19 := hk16 _ _ hS20
 rw [kb1] at hS21
 have hS22 : Sep G W ((RowE (α := Int) own 3 v7 evT.deps) :: (BufO b1 (max 0 (min 5 256)) [evT]) :: (SetO b4 2 ([] : List Ev)) :: Rs) w19 := hS21
 have hkn23 : ((bAddB (max 0 (min 5 256)) ([] : List Ev) evT)) = true := (by decide +kernel)
 rw [hkn23]
 refine sty rfl rfl (ov_not (a := true) rfl ?_)
 refine st (ov_pick_f (v := .bool false) rfl rfl ?_)
 refine st (ov_move (v := .bool false) rfl ?_)
 refine sty rfl rfl (ov_move (v := .pointer (some ⟨b1, 0, none⟩)) rfl ?_)
 refine sty rfl rfl (ov_call (f := 33) (vals := []) (cap := []) (show _ = (.func (.func 33) #[] #[] : Value) from rfl) rfl Try.call33 (D_two  hS22) ?_)
 rintro _ w25 ⟨v24, rfl, hS26⟩
 have hr27 := hS26.row (i := 0) rfl
 have hr27s : evT.deps.length * 8 ≤ 140737488355328 := hr27.2
 obtain ⟨G28, hA30, hB31, hS32, hk33⟩ := hS26.lend
 have hrd34 := RowE.rd hA30
 have hrd34s : evT.deps.length * 8 ≤ 140737488355328 := hrd34.small
 have hS35 : Sep G28 w25 ((BufO b1 (max 0 (min 5 256)) [evT]) :: (RowE (α := Int) own 3 v7 evT.deps) :: (SetO b4 2 ([] : List Ev)) :: Rs) w25 := hS32.sel 3 [1, 0, 2] (Nat.le_add_left _ _) rfl rfl
 refine sty rfl rfl (ov_call (f := 14) (vals := [.pointer (some ⟨b1, 0, none⟩), .agg (evT.cells v24).toArray]) (cap := []) (show _ = (.func (.func 14) #[] #[] : Value) from rfl) rfl Try.call14 (D_bAddL (e := evT) hrd34 evT_ok hS35 (by decide) (by first | exact List.Pairwise.nil | exact srt1) (by decide)) ?_)
 rintro _ w36 ⟨rfl, hS37⟩
 have hS38 : Sep G W ((RowE (α := Int) own 3 v24 evT.deps) :: (BufO b1 (max 0 (min 5 256)) (bAddL (max 0 (min 5 256)) [evT] evT)) :: (RowE (α := Int) own 3 v7 evT.deps) :: (SetO b4 2 ([] : List Ev)) :: Rs) w36 := hk33 _ _ hS37
 rw [kb2] at hS38
 have hS39 : Sep G W ((RowE (α := Int) own 3 v24 evT.deps) :: (BufO b1 (max 0 (min 5 256)) [evT]) :: (RowE (α := Int) own 3 v7 evT.deps) :: (SetO b4 2 ([] : List Ev)) :: Rs) w36 := hS38
 have hkn40 : ((bAddB (max 0 (min 5 256)) [evT] evT)) = false := (by decide +kernel)
 rw [hkn40]
 refine st (ov_pick_f (v := .bool false) rfl rfl ?_)
 refine st (ov_move (v := .bool false) rfl ?_)
 refine sty rfl rfl (ov_move (v := .pointer (some ⟨b1, 0, none⟩)) rfl ?_)
 refine sty rfl rfl (ov_move (v := .pointer (some ⟨b4, 0, none⟩)) rfl ?_)
 have hS41 : Sep G W ((SetO b4 2 ([] : List Ev)) :: (RowE (α := Int) own 3 v24 evT.deps) :: (BufO b1 (max 0 (min 5 256)) [evT]) :: (RowE (α := Int) own 3 v7 evT.deps) :: Rs) w36 := hS39.sel 4 [3, 0, 1, 2] (Nat.le_add_left _ _) rfl rfl
 obtain ⟨G42, hA44, hB45, hS46, hk47⟩ := hS41.lend
 obtain ⟨vv48, m49, R50, hb51, hv52, hr53⟩ := SetO.sh hA44
 have hsm54 : (vecE 2 ([] : List Ev)).length * 8 ≤ 140737488355328 := hv52.small
 have hS55 : Sep G42 w36 ((BufO b1 (max 0 (min 5 256)) [evT]) :: (RowE (α := Int) own 3 v24 evT.deps) :: (RowE (α := Int) own 3 v7 evT.deps) :: Rs) w36 := hS46.sel 3 [1, 0, 2] (Nat.le_add_left _ _) rfl rfl
 refine sty rfl rfl (ov_call (f := 17) (vals := [.pointer (some ⟨b1, 0, none⟩), .pointer (some ⟨b4, 0, none⟩)]) (cap := []) (show _ = (.func (.func 17) #[] #[] : Value) from rfl) rfl Try.call17 (D_Ready  hA44 hS55 (by decide) (Good.nil) (by decide) (by decide)) ?_)
 rintro v56 w57 ⟨_, rfl, hS58⟩
 have hr59 := hS58.row (i := 0) rfl
 have hr59s : (rdyO 2 ([] : List Ev) ([evT].filter (fun x => !hadE ([] : List Ev) x))).length * 96 ≤ 140737488355328 := hr59.2
 have hS60 : Sep G W ((SetO b4 2 ([] : List Ev)) :: (RowE (α := Ev) own 36 v56 (rdyO 2 ([] : List Ev) ([evT].filter (fun x => !hadE ([] : List Ev) x)))) :: (BufO b1 (max 0 (min 5 256)) (rdyB 2 ([] : List Ev) ([evT].filter (fun x => !hadE ([] : List Ev) x)))) :: (RowE (α := Int) own 3 v24 evT.deps) :: (RowE (α := Int) own 3 v7 evT.deps) :: Rs) w57 := hk47 _ _ hS58
 rw [kb3] at hS60
 have hS61 : Sep G W ((SetO b4 2 ([] : List Ev)) :: (RowE (α := Ev) own 36 v56 ([] : List Ev)) :: (BufO b1 (max 0 (min 5 256)) (rdyB 2 ([] : List Ev) ([evT].filter (fun x => !hadE ([] : List Ev) x)))) :: (RowE (α := Int) own 3 v24 evT.deps) :: (RowE (α := Int) own 3 v7 evT.deps) :: Rs) w57 := hS60
 have hr62 := hS61.row (i := 1) rfl
 have hr62s : ([] : List Ev).length * 96 ≤ 140737488355328 := hr62.2
 rw [kb4] at hS61
 have hS63 : Sep G W ((SetO b4 2 ([] : List Ev)) :: (RowE (α := Ev) own 36 v56 ([] : List Ev)) :: (BufO b1 (max 0 (min 5 256)) [evT]) :: (RowE (α := Int) own 3 v24 evT.deps) :: (RowE (α := Int) own 3 v7 evT.deps) :: Rs) w57 := hS61
 refine sty rfl rfl (ov_len (n := ([] : List Ev).length) Try.underlying22 rfl hr62.1 ?_)
 refine sty rfl rfl (ov_neq (k := .i64) (a := ((([] : List Ev).length : Nat) : Int)) (b := 0) rfl rfl ?_)
 have hkn64 : (!decide (((([] : List Ev).length : Nat) : Int) = 0)) = false := (by decide)
 rw [hkn64]
 refine st (ov_pick_f (v := .bool false) rfl rfl ?_)
 refine st (ov_move (v := .bool false) rfl ?_)
 refine sty rfl rfl (ov_move (v := .pointer (some ⟨b1, 0, none⟩)) rfl ?_)
 refine sty rfl rfl (ov_call (f := 34) (vals := []) (cap := []) (show _ = (.func (.func 34) #[] #[] : Value) from rfl) rfl Try.call34 (D_one  hS63) ?_)
 rintro _ w66 ⟨v65, rfl, hS67⟩
 have hr68 := hS67.row (i := 0) rfl
 have hr68s : evO.deps.length * 8 ≤ 140737488355328 := hr68.2
 obtain ⟨G69, hA71, hB72, hS73, hk74⟩ := hS67.lend
 have hrd75 := RowE.rd hA71
 have hrd75s : evO.deps.length * 8 ≤ 140737488355328 := hrd75.small
 have hS76 : Sep G69 w66 ((BufO b1 (max 0 (min 5 256)) [evT]) :: (SetO b4 2 ([] : List Ev)) :: (RowE (α := Ev) own 36 v56 ([] : List Ev)) :: (RowE (α := Int) own 3 v24 evT.deps) :: (RowE (α := Int) own 3 v7 evT.deps) :: Rs) w66 := hS73.sel 5 [2, 0, 1, 3, 4] (Nat.le_add_left _ _) rfl rfl
 refine sty rfl rfl (ov_call (f := 14) (vals := [.pointer (some ⟨b1, 0, none⟩), .agg (evO.cells v65).toArray]) (cap := []) (show _ = (.func (.func 14) #[] #[] : Value) from rfl) rfl Try.call14 (D_bAddL (e := evO) hrd75 evO_ok hS76 (by decide) (by first | exact List.Pairwise.nil | exact srt1) (by decide)) ?_)
 rintro _ w77 ⟨rfl, hS78⟩
 have hS79 : Sep G W ((RowE (α := Int) own 3 v65 evO.deps) :: (BufO b1 (max 0 (min 5 256)) (bAddL (max 0 (min 5 256)) [evT] evO)) :: (SetO b4 2 ([] : List Ev)) :: (RowE (α := Ev) own 36 v56 ([] : List Ev)) :: (RowE (α := Int) own 3 v24 evT.deps) :: (RowE (α := Int) own 3 v7 evT.deps) :: Rs) w77 := hk74 _ _ hS78
 rw [kb5] at hS79
 have hS80 : Sep G W ((RowE (α := Int) own 3 v65 evO.deps) :: (BufO b1 (max 0 (min 5 256)) [evO, evT]) :: (SetO b4 2 ([] : List Ev)) :: (RowE (α := Ev) own 36 v56 ([] : List Ev)) :: (RowE (α := Int) own 3 v24 evT.deps) :: (RowE (α := Int) own 3 v7 evT.deps) :: Rs) w77 := hS79
 have hkn81 : ((bAddB (max 0 (min 5 256)) [evT] evO)) = true := (by decide +kernel)
 rw [hkn81]
 refine sty rfl rfl (ov_not (a := true) rfl ?_)
 refine st (ov_pick_f (v := .bool false) rfl rfl ?_)
 refine st_nil ?_
 refine WP_cond_f rfl ?_
 refine WP_skip ?_
 refine WP_seq ?_
 refine WP_region0 (by kernel_rfl) (fun _ => ?_)
 refine st (ov_move (v := .pointer (some ⟨b1, 0, none⟩)) rfl ?_)
 refine st (ov_move (v := .pointer (some ⟨b4, 0, none⟩)) rfl ?_)
 have hS82 : Sep G W ((SetO b4 2 ([] : List Ev)) :: (RowE (α := Int) own 3 v65 evO.deps) :: (BufO b1 (max 0 (min 5 256)) [evO, evT]) :: (RowE (α := Ev) own 36 v56 ([] : List Ev)) :: (RowE (α := Int) own 3 v24 evT.deps) :: (RowE (α := Int) own 3 v7 evT.deps) :: Rs) w77 := hS80.sel 6 [2, 0, 1, 3, 4, 5] (Nat.le_add_left _ _) rfl rfl
 obtain ⟨G83, hA85, hB86, hS87, hk88⟩ := hS82.lend
 obtain ⟨vv89, m90, R91, hb92, hv93, hr94⟩ := SetO.sh hA85
 have hsm95 : (vecE 2 ([] : List Ev)).length * 8 ≤ 140737488355328 := hv93.small
 have hS96 : Sep G83 w77 ((BufO b1 (max 0 (min 5 256)) [evO, evT]) :: (RowE (α := Int) own 3 v65 evO.deps) :: (RowE (α := Ev) own 36 v56 ([] : List Ev)) :: (RowE (α := Int) own 3 v24 evT.deps) :: (RowE (α := Int) own 3 v7 evT.deps) :: Rs) w77 := hS87.sel 5 [1, 0, 2, 3, 4] (Nat.le_add_left _ _) rfl rfl
 refine st (ov_call (f := 17) (vals := [.pointer (some ⟨b1, 0, none⟩), .pointer (some ⟨b4, 0, none⟩)]) (cap := []) (show _ = (.func (.func 17) #[] #[] : Value) from rfl) rfl Try.call17 (D_Ready  hA85 hS96 (by decide) (Good.nil) (by decide) (by decide)) ?_)
 rintro v97 w98 ⟨_, rfl, hS99⟩
 have hr100 := hS99.row (i := 0) rfl
 have hr100s : (rdyO 2 ([] : List Ev) ([evO, evT].filter (fun x => !hadE ([] : List Ev) x))).length * 96 ≤ 140737488355328 := hr100.2
 have hS101 : Sep G W ((SetO b4 2 ([] : List Ev)) :: (RowE (α := Ev) own 36 v97 (rdyO 2 ([] : List Ev) ([evO, evT].filter (fun x => !hadE ([] : List Ev) x)))) :: (BufO b1 (max 0 (min 5 256)) (rdyB 2 ([] : List Ev) ([evO, evT].filter (fun x => !hadE ([] : List Ev) x)))) :: (RowE (α := Int) own 3 v65 evO.deps) :: (RowE (α := Ev) own 36 v56 ([] : List Ev)) :: (RowE (α := Int) own 3 v24 evT.deps) :: (RowE (α := Int) own 3 v7 evT.deps) :: Rs) w98 := hk88 _ _ hS99
 rw [kb6] at hS101
 have hS102 : Sep G W ((SetO b4 2 ([] : List Ev)) :: (RowE (α := Ev) own 36 v97 [evO, evT]) :: (BufO b1 (max 0 (min 5 256)) (rdyB 2 ([] : List Ev) ([evO, evT].filter (fun x => !hadE ([] : List Ev) x)))) :: (RowE (α := Int) own 3 v65 evO.deps) :: (RowE (α := Ev) own 36 v56 ([] : List Ev)) :: (RowE (α := Int) own 3 v24 evT.deps) :: (RowE (α := Int) own 3 v7 evT.deps) :: Rs) w98 := hS101
 have hr103 := hS102.row (i := 1) rfl
 have hr103s : [evO, evT].length * 96 ≤ 140737488355328 := hr103.2
 rw [kb7] at hS102
 have hS104 : Sep G W ((SetO b4 2 ([] : List Ev)) :: (RowE (α := Ev) own 36 v97 [evO, evT]) :: (BufO b1 (max 0 (min 5 256)) ([] : List Ev)) :: (RowE (α := Int) own 3 v65 evO.deps) :: (RowE (α := Ev) own 36 v56 ([] : List Ev)) :: (RowE (α := Int) own 3 v24 evT.deps) :: (RowE (α := Int) own 3 v7 evT.deps) :: Rs) w98 := hS102
 refine st (ov_assign (v := v97) rfl ?_)
 refine st_nil ?_
 refine WP_seq ?_
 refine WP_region (by kernel_rfl) ?_
 refine st (ov_move (v := v97) rfl ?_)
 refine st (ov_call (f := 34) (vals := []) (cap := []) (show _ = (.func (.func 34) #[] #[] : Value) from rfl) rfl Try.call34 (D_one  hS104) ?_)
 rintro _ w106 ⟨v105, rfl, hS107⟩
 have hr108 := hS107.row (i := 0) rfl
 have hr108s : evO.deps.length * 8 ≤ 140737488355328 := hr108.2
 refine st (ov_call (f := 33) (vals := []) (cap := []) (show _ = (.func (.func 33) #[] #[] : Value) from rfl) rfl Try.call33 (D_two  hS107) ?_)
 rintro _ w110 ⟨v109, rfl, hS111⟩
 have hr112 := hS111.row (i := 0) rfl
 have hr112s : evT.deps.length * 8 ≤ 140737488355328 := hr112.2
 refine st (ov_buildSlice (k := 10) (parts' := [(0, .agg (evO.cells v105).toArray), (1, .agg (evT.cells v109).toArray)]) (c := #[.int .i64 (evO.origin), .int .i64 (evO.seq), .int .i64 (evO.lam), v105, .int .i64 (evO.typ), .int .i64 (evO.agg), .int .i64 (evO.field), .int .i64 (evO.op), .int .i64 (evO.arg), .int .i64 (evO.key), .int .i64 (evT.origin), .int .i64 (evT.seq), .int .i64 (evT.lam), v109, .int .i64 (evT.typ), .int .i64 (evT.agg), .int .i64 (evT.field), .int .i64 (evT.op), .int .i64 (evT.arg), .int .i64 (evT.key)]) Try.underlying22 Try.sizeOf36 Try.zeroValue36 (by decide) rfl (by kernel_rfl) ?_)
 intro w115 b114 hn113
 have hS116 : Sep G W ((Blk b114 #[.int .i64 (evO.origin), .int .i64 (evO.seq), .int .i64 (evO.lam), v105, .int .i64 (evO.typ), .int .i64 (evO.agg), .int .i64 (evO.field), .int .i64 (evO.op), .int .i64 (evO.arg), .int .i64 (evO.key), .int .i64 (evT.origin), .int .i64 (evT.seq), .int .i64 (evT.lam), v109, .int .i64 (evT.typ), .int .i64 (evT.agg), .int .i64 (evT.field), .int .i64 (evT.op), .int .i64 (evT.arg), .int .i64 (evT.key)] 36) :: (RowE (α := Int) own 3 v109 evT.deps) :: (RowE (α := Int) own 3 v105 evO.deps) :: (SetO b4 2 ([] : List Ev)) :: (RowE (α := Ev) own 36 v97 [evO, evT]) :: (BufO b1 (max 0 (min 5 256)) ([] : List Ev)) :: (RowE (α := Int) own 3 v65 evO.deps) :: (RowE (α := Ev) own 36 v56 ([] : List Ev)) :: (RowE (α := Int) own 3 v24 evT.deps) :: (RowE (α := Int) own 3 v7 evT.deps) :: Rs) w115 := hS111.new hn113
 have hS117 : Sep G W ((RowE (α := Int) own 3 v109 evT.deps) :: (Blk b114 #[.int .i64 (evO.origin), .int .i64 (evO.seq), .int .i64 (evO.lam), v105, .int .i64 (evO.typ), .int .i64 (evO.agg), .int .i64 (evO.field), .int .i64 (evO.op), .int .i64 (evO.arg), .int .i64 (evO.key), .int .i64 (evT.origin), .int .i64 (evT.seq), .int .i64 (evT.lam), v109, .int .i64 (evT.typ), .int .i64 (evT.agg), .int .i64 (evT.field), .int .i64 (evT.op), .int .i64 (evT.arg), .int .i64 (evT.key)] 36) :: (RowE (α := Int) own 3 v105 evO.deps) :: (SetO b4 2 ([] : List Ev)) :: (RowE (α := Ev) own 36 v97 [evO, evT]) :: (BufO b1 (max 0 (min 5 256)) ([] : List Ev)) :: (RowE (α := Int) own 3 v65 evO.deps) :: (RowE (α := Ev) own 36 v56 ([] : List Ev)) :: (RowE (α := Int) own 3 v24 evT.deps) :: (RowE (α := Int) own 3 v7 evT.deps) :: Rs) w115 := hS116.sel 10 [1, 0, 2, 3, 4, 5, 6, 7, 8, 9] (Nat.le_add_left _ _) rfl rfl
 obtain ⟨G118, hA120, hB121, hS122, hk123⟩ := hS117.lend
 have hrd124 := RowE.rd hA120
 have hrd124s : evT.deps.length * 8 ≤ 140737488355328 := hrd124.small
 have hS125 : Sep G118 w115 ((RowE (α := Int) own 3 v105 evO.deps) :: (Blk b114 #[.int .i64 (evO.origin), .int .i64 (evO.seq), .int .i64 (evO.lam), v105, .int .i64 (evO.typ), .int .i64 (evO.agg), .int .i64 (evO.field), .int .i64 (evO.op), .int .i64 (evO.arg), .int .i64 (evO.key), .int .i64 (evT.origin), .int .i64 (evT.seq), .int .i64 (evT.lam), v109, .int .i64 (evT.typ), .int .i64 (evT.agg), .int .i64 (evT.field), .int .i64 (evT.op), .int .i64 (evT.arg), .int .i64 (evT.key)] 36) :: (SetO b4 2 ([] : List Ev)) :: (RowE (α := Ev) own 36 v97 [evO, evT]) :: (BufO b1 (max 0 (min 5 256)) ([] : List Ev)) :: (RowE (α := Int) own 3 v65 evO.deps) :: (RowE (α := Ev) own 36 v56 ([] : List Ev)) :: (RowE (α := Int) own 3 v24 evT.deps) :: (RowE (α := Int) own 3 v7 evT.deps) :: Rs) w115 := hS122.sel 9 [1, 0, 2, 3, 4, 5, 6, 7, 8] (Nat.le_add_left _ _) rfl rfl
 obtain ⟨G126, hA128, hB129, hS130, hk131⟩ := hS125.lend
 have hrd132 := RowE.rd hA128
 have hrd132s : evO.deps.length * 8 ≤ 140737488355328 := hrd132.small
 have hS133 : Sep G126 w115 ((RowE (α := Int) own 3 v65 evO.deps) :: (Blk b114 #[.int .i64 (evO.origin), .int .i64 (evO.seq), .int .i64 (evO.lam), v105, .int .i64 (evO.typ), .int .i64 (evO.agg), .int .i64 (evO.field), .int .i64 (evO.op), .int .i64 (evO.arg), .int .i64 (evO.key), .int .i64 (evT.origin), .int .i64 (evT.seq), .int .i64 (evT.lam), v109, .int .i64 (evT.typ), .int .i64 (evT.agg), .int .i64 (evT.field), .int .i64 (evT.op), .int .i64 (evT.arg), .int .i64 (evT.key)] 36) :: (SetO b4 2 ([] : List Ev)) :: (RowE (α := Ev) own 36 v97 [evO, evT]) :: (BufO b1 (max 0 (min 5 256)) ([] : List Ev)) :: (RowE (α := Ev) own 36 v56 ([] : List Ev)) :: (RowE (α := Int) own 3 v24 evT.deps) :: (RowE (α := Int) own 3 v7 evT.deps) :: Rs) w115 := hS130.sel 8 [4, 0, 1, 2, 3, 5, 6, 7] (Nat.le_add_left _ _) rfl rfl
 obtain ⟨G134, hA136, hB137, hS138, hk139⟩ := hS133.lend
 have hrd140 := RowE.rd hA136
 have hrd140s : evO.deps.length * 8 ≤ 140737488355328 := hrd140.small
 have hS141 : Sep G134 w115 ((RowE (α := Int) own 3 v24 evT.deps) :: (Blk b114 #[.int .i64 (evO.origin), .int .i64 (evO.seq), .int .i64 (evO.lam), v105, .int .i64 (evO.typ), .int .i64 (evO.agg), .int .i64 (evO.field), .int .i64 (evO.op), .int .i64 (evO.arg), .int .i64 (evO.key), .int .i64 (evT.origin), .int .i64 (evT.seq), .int .i64 (evT.lam), v109, .int .i64 (evT.typ), .int .i64 (evT.agg), .int .i64 (evT.field), .int .i64 (evT.op), .int .i64 (evT.arg), .int .i64 (evT.key)] 36) :: (SetO b4 2 ([] : List Ev)) :: (RowE (α := Ev) own 36 v97 [evO, evT]) :: (BufO b1 (max 0 (min 5 256)) ([] : List Ev)) :: (RowE (α := Ev) own 36 v56 ([] : List Ev)) :: (RowE (α := Int) own 3 v7 evT.deps) :: Rs) w115 := hS138.sel 7 [5, 0, 1, 2, 3, 4, 6] (Nat.le_add_left _ _) rfl rfl
 obtain ⟨G142, hA144, hB145, hS146, hk147⟩ := hS141.lend
 have hrd148 := RowE.rd hA144
 have hrd148s : evT.deps.length * 8 ≤ 140737488355328 := hrd148.small
 have hS149 : Sep G142 w115 ((RowE (α := Int) own 3 v7 evT.deps) :: (Blk b114 #[.int .i64 (evO.origin), .int .i64 (evO.seq), .int .i64 (evO.lam), v105, .int .i64 (evO.typ), .int .i64 (evO.agg), .int .i64 (evO.field), .int .i64 (evO.op), .int .i64 (evO.arg), .int .i64 (evO.key), .int .i64 (evT.origin), .int .i64 (evT.seq), .int .i64 (evT.lam), v109, .int .i64 (evT.typ), .int .i64 (evT.agg), .int .i64 (evT.field), .int .i64 (evT.op), .int .i64 (evT.arg), .int .i64 (evT.key)] 36) :: (SetO b4 2 ([] : List Ev)) :: (RowE (α := Ev) own 36 v97 [evO, evT]) :: (BufO b1 (max 0 (min 5 256)) ([] : List Ev)) :: (RowE (α := Ev) own 36 v56 ([] : List Ev)) :: Rs) w115 := hS146.sel 6 [5, 0, 1, 2, 3, 4] (Nat.le_add_left _ _) rfl rfl
 obtain ⟨G150, hA152, hB153, hS154, hk155⟩ := hS149.lend
 have hrd156 := RowE.rd hA152
 have hrd156s : evT.deps.length * 8 ≤ 140737488355328 := hrd156.small
 have hS157 : Sep G150 w115 ((RowE (α := Ev) own 36 v97 [evO, evT]) :: (Blk b114 #[.int .i64 (evO.origin), .int .i64 (evO.seq), .int .i64 (evO.lam), v105, .int .i64 (evO.typ), .int .i64 (evO.agg), .int .i64 (evO.field), .int .i64 (evO.op), .int .i64 (evO.arg), .int .i64 (evO.key), .int .i64 (evT.origin), .int .i64 (evT.seq), .int .i64 (evT.lam), v109, .int .i64 (evT.typ), .int .i64 (evT.agg), .int .i64 (evT.field), .int .i64 (evT.op), .int .i64 (evT.arg), .int .i64 (evT.key)] 36) :: (SetO b4 2 ([] : List Ev)) :: (BufO b1 (max 0 (min 5 256)) ([] : List Ev)) :: (RowE (α := Ev) own 36 v56 ([] : List Ev)) :: Rs) w115 := hS154.sel 5 [2, 0, 1, 3, 4] (Nat.le_add_left _ _) rfl rfl
 obtain ⟨G158, hA160, hB161, hS162, hk163⟩ := hS157.lend
 have hrd164 := RowE.rd hA160
 have hrd164s : [evO, evT].length * 96 ≤ 140737488355328 := hrd164.small
 have hS165 : Sep G158 w115 ((RowE (α := Ev) (shr G158 w115) 36 (.slice (some ⟨b114, 0, none⟩) 2 2) [evO, evT]) :: (SetO b4 2 ([] : List Ev)) :: (BufO b1 (max 0 (min 5 256)) ([] : List Ev)) :: (RowE (α := Ev) own 36 v56 ([] : List Ev)) :: Rs) w115 := Sep.blkRow (src := (shr G158 w115)) (l := [evO, evT]) (css := [evO.cells v105, evT.cells v109]) hS162 rfl ⟨fun _ _ => ⟨_, rfl, (RdS.base (RdS.base (RdS.base (RdS.base hrd132 hB137) hB145) hB153) hB161), evO_ok⟩, fun _ _ => ⟨_, rfl, (RdS.base (RdS.base (RdS.base (RdS.base (RdS.base hrd124 hB129) hB137) hB145) hB153) hB161), evT_ok⟩, trivial⟩ (by first | decide | (simp only [List.length_cons, List.length_nil]; decide))
 have hr166 := hS165.row (i := 0) rfl
 have hr166s : [evO, evT].length * 96 ≤ 140737488355328 := hr166.2
 obtain ⟨G167, hA169, hB170, hS171, hk172⟩ := hS165.lend
 have hrd173 := RowE.rdB hA169 hB170
 have hrd173s : [evO, evT].length * 96 ≤ 140737488355328 := hrd173.small
 refine st (ov_call (f := 19) (vals := [v97, (.slice (some ⟨b114, 0, none⟩) 2 2)]) (cap := []) (show _ = (.func (.func 19) #[] #[] : Value) from rfl) rfl Try.call19 (D_sameEvents (a := [evO, evT]) (va := v97) (b := [evO, evT]) (vb := (.slice (some ⟨b114, 0, none⟩) 2 2)) (RdS.base hrd164 hB170) hrd173 hS171) ?_)
 rintro _ w174 ⟨rfl, hS175⟩
 have hS176 : Sep G158 w115 ((RowE (α := Ev) (shr G158 w115) 36 (.slice (some ⟨b114, 0, none⟩) 2 2) [evO, evT]) :: (SetO b4 2 ([] : List Ev)) :: (BufO b1 (max 0 (min 5 256)) ([] : List Ev)) :: (RowE (α := Ev) own 36 v56 ([] : List Ev)) :: Rs) w174 := hk172 _ _ hS175
 have hS177 : Sep G150 w115 ((RowE (α := Ev) own 36 v97 [evO, evT]) :: (RowE (α := Ev) (shr G158 w115) 36 (.slice (some ⟨b114, 0, none⟩) 2 2) [evO, evT]) :: (SetO b4 2 ([] : List Ev)) :: (BufO b1 (max 0 (min 5 256)) ([] : List Ev)) :: (RowE (α := Ev) own 36 v56 ([] : List Ev)) :: Rs) w174 := hk163 _ _ hS176
 have hS178 : Sep G150 w115 ((RowE (α := Ev) own 36 v97 [evO, evT]) :: (SetO b4 2 ([] : List Ev)) :: (BufO b1 (max 0 (min 5 256)) ([] : List Ev)) :: (RowE (α := Ev) own 36 v56 ([] : List Ev)) :: Rs) w174 := hS177.sel 5 [0, 2, 3, 4] (Nat.le_add_left _ _) rfl rfl
 have hkn179 : (decide ([evO, evT] = [evO, evT])) = true := (by decide +kernel)
 rw [hkn179]
 refine st (ov_move (v := .bool true) rfl ?_)
 refine sty rfl rfl (ov_move (v := .pointer (some ⟨b1, 0, none⟩)) rfl ?_)
 have hS180 : Sep G150 w115 ((BufO b1 (max 0 (min 5 256)) ([] : List Ev)) :: (RowE (α := Ev) own 36 v97 [evO, evT]) :: (SetO b4 2 ([] : List Ev)) :: (RowE (α := Ev) own 36 v56 ([] : List Ev)) :: Rs) w174 := hS178.sel 4 [2, 0, 1, 3] (Nat.le_add_left _ _) rfl rfl
 obtain ⟨G181, hA183, hB184, hS185, hk186⟩ := hS180.lend
 obtain ⟨vl187, hb188, hl189⟩ := BufO.sh hA183
 have hsm190 : ([] : List Ev).length * 96 ≤ 140737488355328 := hl189.small
 refine sty rfl rfl (ov_call (f := 18) (vals := [.pointer (some ⟨b1, 0, none⟩)]) (cap := []) (show _ = (.func (.func 18) #[] #[] : Value) from rfl) rfl Try.call18 (D_bLen  hA183 hS185) ?_)
 rintro _ w191 ⟨rfl, hS192⟩
 have hS193 : Sep G150 w115 ((BufO b1 (max 0 (min 5 256)) ([] : List Ev)) :: (RowE (α := Ev) own 36 v97 [evO, evT]) :: (SetO b4 2 ([] : List Ev)) :: (RowE (α := Ev) own 36 v56 ([] : List Ev)) :: Rs) w191 := hk186 _ _ hS192
 refine sty rfl rfl (ov_eql (k := .i64) (a := ((([] : List Ev).length : Nat) : Int)) (b := 0) rfl rfl ?_)
 have hkn194 : (decide (((([] : List Ev).length : Nat) : Int) = 0)) = true := (by decide)
 rw [hkn194]
 refine st (ov_pick_t (v := .bool true) rfl rfl ?_)
 refine st (ov_move (v := .bool true) rfl ?_)
 refine sty rfl rfl (ov_move (v := .pointer (some ⟨b4, 0, none⟩)) rfl ?_)
 have hS195 : Sep G150 w115 ((SetO b4 2 ([] : List Ev)) :: (BufO b1 (max 0 (min 5 256)) ([] : List Ev)) :: (RowE (α := Ev) own 36 v97 [evO, evT]) :: (RowE (α := Ev) own 36 v56 ([] : List Ev)) :: Rs) w191 := hS193.sel 4 [2, 0, 1, 3] (Nat.le_add_left _ _) rfl rfl
 obtain ⟨G196, hA198, hB199, hS200, hk201⟩ := hS195.lend
 obtain ⟨vv202, m203, R204, hb205, hv206, hr207⟩ := SetO.sh hA198
 have hsm208 : (vecE 2 ([] : List Ev)).length * 8 ≤ 140737488355328 := hv206.small
 refine sty rfl rfl (ov_call (f := 35) (vals := [.pointer (some ⟨b4, 0, none⟩)]) (cap := []) (show _ = (.func (.func 35) #[] #[] : Value) from rfl) rfl Try.call35 (D_Len  hA198 hS200 (by decide)) ?_)
 rintro _ w209 ⟨rfl, hS210⟩
 have hS211 : Sep G150 w115 ((SetO b4 2 ([] : List Ev)) :: (BufO b1 (max 0 (min 5 256)) ([] : List Ev)) :: (RowE (α := Ev) own 36 v97 [evO, evT]) :: (RowE (α := Ev) own 36 v56 ([] : List Ev)) :: Rs) w209 := hk201 _ _ hS210
 refine sty rfl rfl (ov_eql (k := .i64) (a := ((([] : List Ev).length : Nat) : Int)) (b := 0) rfl rfl ?_)
 have hkn212 : (decide (((([] : List Ev).length : Nat) : Int) = 0)) = true := (by decide)
 rw [hkn212]
 refine st (ov_pick_t (v := .bool true) rfl rfl ?_)
 refine st (ov_assign (v := .bool true) rfl ?_)
 refine st_nil ?_
 refine WP_ret ?_
 refine fin1 Try.results9 (show _ = (.bool true : Value) from rfl) ?_
 have hS213 : Sep G142 w115 ((RowE (α := Int) own 3 v7 evT.deps) :: (SetO b4 2 ([] : List Ev)) :: (BufO b1 (max 0 (min 5 256)) ([] : List Ev)) :: (RowE (α := Ev) own 36 v97 [evO, evT]) :: (RowE (α := Ev) own 36 v56 ([] : List Ev)) :: Rs) w209 := hk155 _ _ hS211
 have hS214 : Sep G134 w115 ((RowE (α := Int) own 3 v24 evT.deps) :: (RowE (α := Int) own 3 v7 evT.deps) :: (SetO b4 2 ([] : List Ev)) :: (BufO b1 (max 0 (min 5 256)) ([] : List Ev)) :: (RowE (α := Ev) own 36 v97 [evO, evT]) :: (RowE (α := Ev) own 36 v56 ([] : List Ev)) :: Rs) w209 := hk147 _ _ hS213
 have hS215 : Sep G126 w115 ((RowE (α := Int) own 3 v65 evO.deps) :: (RowE (α := Int) own 3 v24 evT.deps) :: (RowE (α := Int) own 3 v7 evT.deps) :: (SetO b4 2 ([] : List Ev)) :: (BufO b1 (max 0 (min 5 256)) ([] : List Ev)) :: (RowE (α := Ev) own 36 v97 [evO, evT]) :: (RowE (α := Ev) own 36 v56 ([] : List Ev)) :: Rs) w209 := hk139 _ _ hS214
 have hS216 : Sep G118 w115 ((RowE (α := Int) own 3 v105 evO.deps) :: (RowE (α := Int) own 3 v65 evO.deps) :: (RowE (α := Int) own 3 v24 evT.deps) :: (RowE (α := Int) own 3 v7 evT.deps) :: (SetO b4 2 ([] : List Ev)) :: (BufO b1 (max 0 (min 5 256)) ([] : List Ev)) :: (RowE (α := Ev) own 36 v97 [evO, evT]) :: (RowE (α := Ev) own 36 v56 ([] : List Ev)) :: Rs) w209 := hk131 _ _ hS215
 have hS217 : Sep G W ((RowE (α := Int) own 3 v109 evT.deps) :: (RowE (α := Int) own 3 v105 evO.deps) :: (RowE (α := Int) own 3 v65 evO.deps) :: (RowE (α := Int) own 3 v24 evT.deps) :: (RowE (α := Int) own 3 v7 evT.deps) :: (SetO b4 2 ([] : List Ev)) :: (BufO b1 (max 0 (min 5 256)) ([] : List Ev)) :: (RowE (α := Ev) own 36 v97 [evO, evT]) :: (RowE (α := Ev) own 36 v56 ([] : List Ev)) :: Rs) w209 := hk123 _ _ hS216
 have hS218 : Sep G W Rs w209 := hS217.sel 9 [] (Nat.le_add_left _ _) rfl rfl
 refine ⟨rfl, hS218⟩

end Go.Proofs.Ytmiihhbeclhaoaa
end

section
/- Steps of the proofs of this seat: part E2. -/
set_option linter.unusedSimpArgs false
set_option linter.unusedVariables false
set_option maxRecDepth 8000
set_option maxHeartbeats 4000000
namespace Go.Proofs.Ytmiihhbeclhaoaa
open Go.Proofs Go.RowKit

structure RoomI (m : Int) (k : Nat) (B : List Ev) : Prop where
  len : ((B.length : Nat) : Int) = min ((k : Nat) : Int) m
  srt : Srt B
  seq : ∀ x ∈ B, x.seq ≤ k
end Go.Proofs.Ytmiihhbeclhaoaa
end

section
/- Plain laws of chapter 25: the first ones of each Id; what is told can be added; nothing is lost. -/
set_option linter.unusedSimpArgs false
set_option linter.unusedVariables false
namespace Go.Proofs.Ytmiihhbeclhaoaa
open Go.Proofs Go.RowKit

/-- The first ones of each Id. -/
def ownL (l : List Ev) : Nat → List Ev
  | 0 => []
  | k + 1 => if befE l k = true then ownL l k else ownL l k ++ [l.getD k default]
section
variable {l A B L T O : List Ev} {e x : Ev} {n k : Nat} {m : Int}
theorem own_yes (h : befE l k = true) : ownL l (k + 1) = ownL l k := by show (if befE l k = true then _ else _) = _; rw [if_pos h]
theorem own_no (h : befE l k = false) : ownL l (k + 1) = ownL l k ++ [l.getD k default] := by show (if befE l k = true then _ else _) = _; rw [if_neg (by rw [h]; decide)]
theorem same_trans {a b c : Ev} (h1 : sameId a b = true) (h2 : sameId b c = true) : sameId a c = true := sameId_iff.2 ((sameId_iff.1 h1).trans (sameId_iff.1 h2))
theorem take_snocE (hk : k < l.length) : l.take (k + 1) = l.take k ++ [l.getD k default] := by rw [List.take_succ_eq_append_getElem hk, getD_at _ hk]
theorem has_app : hasId (A ++ [x]) e = (hasId A e || sameId x e) := by unfold hasId; simp [List.any_append]
theorem own_has : ∀ {k : Nat}, k ≤ l.length → hasId (ownL l k) e = (l.take k).any fun x => sameId x e
  | 0, _ => by rw [List.take_zero]; rfl
  | k + 1, hk => by
    have ih := own_has (k := k) (Nat.le_of_lt hk)
    rw [take_snocE hk, List.any_append]
    have h1 : ([l.getD k default].any fun x => sameId x e) = sameId (l.getD k default) e := by simp
    rw [h1]
    cases hb : befE l k with
    | true =>
      rw [own_yes hb, ih]
      cases hs : sameId (l.getD k default) e with
      | false => rw [Bool.or_false]
      | true =>
        unfold befE at hb
        rw [List.any_eq_true] at hb
        obtain ⟨x, hx, hxs⟩ := hb
        have h3 : ((l.take k).any fun x => sameId x e) = true := List.any_eq_true.2 ⟨x, hx, same_trans hxs hs⟩
        rw [h3]; rfl
    | false => rw [own_no hb, has_app, ih]
theorem bef_own (hk : k ≤ l.length) : befE l k = hasId (ownL l k) (l.getD k default) := (own_has hk).symm
theorem own_ids : ∀ {k : Nat}, k ≤ l.length → ((ownL l k).map idE).Nodup
  | 0, _ => List.Pairwise.nil
  | k + 1, hk => by
    have ih := own_ids (Nat.le_of_lt hk)
    cases hb : befE l k with
    | true => rw [own_yes hb]; exact ih
    | false =>
      have h1 := has_no (B := ownL l k) (e := l.getD k default) (by rw [← bef_own (Nat.le_of_lt hk)]; exact hb)
      rw [own_no hb, List.map_append]
      exact List.nodup_append.2 ⟨ih, List.pairwise_singleton _ _, fun a ha b hb' e => h1 (by rw [List.mem_singleton.1 hb'] at e; rw [← e]; exact ha)⟩
theorem own_len : (ownL l k).length ≤ k := by
  induction k with
  | zero => exact Nat.le_refl _
  | succ k ih =>
    cases hb : befE l k with
    | true => rw [own_yes hb]; omega
    | false => rw [own_no hb, List.length_append, List.length_singleton]; omega
theorem has_perm (h : A.Perm B) : hasId A e = hasId B e := by
  unfold hasId
  rw [Bool.eq_iff_iff, List.any_eq_true, List.any_eq_true]
  exact ⟨fun ⟨x, hx, hs⟩ => ⟨x, h.mem_iff.1 hx, hs⟩, fun ⟨x, hx, hs⟩ => ⟨x, h.mem_iff.2 hx, hs⟩⟩
theorem sort_len : (sortE l).length = l.length := sortE_perm.length_eq
theorem bAdd_sort (hm : ((A.length : Nat) : Int) < m) : bAddB m (sortE A) e = !hasId A e ∧ bAddL m (sortE A) e = if hasId A e = true then sortE A else sortE (A ++ [e]) := by
  have h1 : bAddB m (sortE A) e = !hasId A e := by
    unfold bAddB
    rw [has_perm sortE_perm, sort_len, decide_eq_false (by omega), Bool.false_or]
  refine ⟨h1, ?_⟩
  unfold bAddL
  rw [h1, sortE_snoc]
  cases hasId A e <;> rfl
end
end Go.Proofs.Ytmiihhbeclhaoaa
end

section
/- Steps of the proofs of this seat: part E3. -/
set_option linter.unusedSimpArgs false
set_option linter.unusedVariables false
set_option maxRecDepth 8000
set_option maxHeartbeats 4000000
namespace Go.Proofs.Ytmiihhbeclhaoaa
open Go.Proofs Go.RowKit

end Go.Proofs.Ytmiihhbeclhaoaa
end

section
/- Plain laws of chapter 25: in whatever order they come. -/
set_option linter.unusedSimpArgs false
set_option linter.unusedVariables false
namespace Go.Proofs.Ytmiihhbeclhaoaa
open Go.Proofs Go.RowKit

def rotL (W : List Ev) (f k : Nat) : List Ev := (List.range k).map fun j => W.getD ((W.length - 1 - j + f) % W.length) default
section
variable {W : List Ev} {e x : Ev} {f i j k : Nat} {m : Int}
theorem ids_inj (h : (W.map idE).Nodup) (hi : i < W.length) (hj : j < W.length) (he : idE (W.getD i default) = idE (W.getD j default)) : i = j := by
  have h1 : W.Pairwise fun a b => idE a ≠ idE b := List.pairwise_map.1 h
  rw [getD_at _ hi, getD_at _ hj] at he
  rw [List.pairwise_iff_getElem] at h1
  rcases Nat.lt_trichotomy i j with h2 | h2 | h2
  · exact absurd he (h1 i j hi hj h2)
  · exact h2
  · exact absurd he.symm (h1 j i hj hi h2)
theorem rot_inj (hj : j < W.length) (hk : k < W.length) (h : (W.length - 1 - j + f) % W.length = (W.length - 1 - k + f) % W.length) : j = k := by
  rcases Nat.lt_trichotomy j k with h1 | h1 | h1
  · have h2 := Nat.sub_mod_eq_zero_of_mod_eq h
    rw [show W.length - 1 - j + f - (W.length - 1 - k + f) = k - j by omega, Nat.mod_eq_of_lt (by omega)] at h2
    omega
  · exact h1
  · have h2 := Nat.sub_mod_eq_zero_of_mod_eq h.symm
    rw [show W.length - 1 - k + f - (W.length - 1 - j + f) = j - k by omega, Nat.mod_eq_of_lt (by omega)] at h2
    omega
theorem has_false {A : List Ev} (h : ∀ x ∈ A, idE x ≠ idE e) : hasId A e = false := by
  unfold hasId
  rw [List.any_eq_false]
  exact fun x hx hs => h x hx (sameId_iff.1 hs)
theorem turn_a (hi : (W.map idE).Nodup) (hk : k < W.length) (hm : ((W.length : Nat) : Int) < m) : bAddB m (sortE (W.take k)) (W.getD k default) = true ∧ bAddL m (sortE (W.take k)) (W.getD k default) = sortE (W.take (k + 1)) := by
  have hh : hasId (W.take k) (W.getD k default) = false := has_false fun x hx he => by
    obtain ⟨i, hi', rfl⟩ := List.mem_take_iff_getElem.1 hx
    rw [← getD_at default (by omega : i < W.length)] at he
    have := ids_inj hi (by omega) hk he
    omega
  obtain ⟨h1, h2⟩ := bAdd_sort (A := W.take k) (e := W.getD k default) (m := m) (by rw [List.length_take]; omega)
  rw [hh] at h1 h2
  exact ⟨h1, by rw [h2, if_neg (by decide), take_snocE hk]⟩
theorem rot_at (hk : k < W.length) : (W.length - 1 - k + f) % W.length < W.length := Nat.mod_lt _ (by omega)
theorem rot_succ : rotL W f (k + 1) = rotL W f k ++ [W.getD ((W.length - 1 - k + f) % W.length) default] := by
  unfold rotL
  rw [List.range_succ, List.map_append]; rfl
theorem rot_len : (rotL W f k).length = k := by unfold rotL; simp
theorem rot_new (hi : (W.map idE).Nodup) (hk : k < W.length) : ∀ x ∈ rotL W f k, idE x ≠ idE (W.getD ((W.length - 1 - k + f) % W.length) default) := fun x hx he => by
  unfold rotL at hx
  obtain ⟨j, hj, rfl⟩ := List.mem_map.1 hx
  have hj' := List.mem_range.1 hj
  have := rot_inj (f := f) (by omega) hk (ids_inj hi (rot_at (by omega)) (rot_at hk) he)
  omega
theorem turn_b (hi : (W.map idE).Nodup) (hk : k < W.length) (hm : ((W.length : Nat) : Int) < m) : bAddB m (sortE (rotL W f k)) (W.getD ((W.length - 1 - k + f) % W.length) default) = true ∧ bAddL m (sortE (rotL W f k)) (W.getD ((W.length - 1 - k + f) % W.length) default) = sortE (rotL W f (k + 1)) := by
  have hh := has_false (rot_new (f := f) hi hk)
  obtain ⟨h1, h2⟩ := bAdd_sort (A := rotL W f k) (e := W.getD ((W.length - 1 - k + f) % W.length) default) (m := m) (by rw [rot_len]; omega)
  rw [hh] at h1 h2
  exact ⟨h1, by rw [h2, if_neg (by decide), rot_succ]⟩
theorem rot_ids (hi : (W.map idE).Nodup) : ∀ {k : Nat}, k ≤ W.length → ((rotL W f k).map idE).Nodup
  | 0, _ => List.Pairwise.nil
  | k + 1, hk => by
    have h1 := rot_new (f := f) hi hk
    rw [rot_succ, List.map_append]
    refine List.nodup_append.2 ⟨rot_ids hi (Nat.le_of_lt hk), List.pairwise_singleton _ _, fun a ha b hb e => ?_⟩
    obtain ⟨x, hx, rfl⟩ := List.mem_map.1 ha
    rw [List.map_singleton, List.mem_singleton] at hb
    exact h1 x hx (e.trans hb)
theorem turn_endB (hi : (W.map idE).Nodup) : sortE (rotL W f W.length) = sortE W := by
  have h1 := rot_ids (f := f) hi (Nat.le_refl _)
  have hnd : (rotL W f W.length).Nodup := (List.pairwise_map.1 h1).imp fun hab e => hab (congrArg idE e)
  have hs : ∀ x ∈ rotL W f W.length, x ∈ W := fun x hx => by
    unfold rotL at hx
    obtain ⟨j, hj, rfl⟩ := List.mem_map.1 hx
    exact getD_mem (rot_at (List.mem_range.1 hj))
  have hnw : W.Nodup := (List.pairwise_map.1 hi).imp fun hab e => hab (congrArg idE e)
  have hp : (rotL W f W.length).Perm W := (List.perm_ext_iff_of_nodup hnd hnw).2 fun x => ⟨hs x, fun hx => by
    by_cases hm : x ∈ rotL W f W.length
    · exact hm
    · have h9 := nodup_len (T := x :: rotL W f W.length) (S := W) (List.nodup_cons.2 ⟨hm, hnd⟩) (fun y hy => by
        rcases List.mem_cons.1 hy with rfl | hy
        · exact hx
        · exact hs y hy)
      rw [List.length_cons, rot_len] at h9
      omega⟩
  exact srt_uniq (sortE_srt h1) (sortE_srt hi) (sortE_perm.trans (hp.trans sortE_perm.symm))
end
end Go.Proofs.Ytmiihhbeclhaoaa
end

section
/- Steps of the proofs of this seat: part E4. -/
set_option linter.unusedSimpArgs false
set_option linter.unusedVariables false
set_option maxRecDepth 8000
set_option maxHeartbeats 4000000
namespace Go.Proofs.Ytmiihhbeclhaoaa
open Go.Proofs Go.RowKit

theorem D_BufferTurned {G : Nat → Prop} {W w : World} {Rs : List HP} {n : Int} (hn : InR n) {vl : Value} {l : List Ev} (hl : RdS W G vl l) {first : Int} (hfirst : InR first) (hS0 : Sep G W Rs w) : Ret Try.prog 4 [.int .i64 (n), vl, .int .i64 (first)] w (fun r w' => r = (.bool true : Value) ∧ Sep G W Rs w') := by
 have hls : l.length * 96 ≤ 140737488355328 := hl.small
 refine Calls_of_WP (args := [.int .i64 (n), vl, .int .i64 (first)]) Try.func4 rfl rfl ?_
 refine WP_seq ?_
 refine WP_region0 (by kernel_rfl) (fun _ => ?_)
 refine st (ov_assign (v := .bool false) rfl ?_)
 refine st_nil ?_
 refine WP_seq ?_
 refine WP_seq ?_
 refine WP_region0 (by kernel_rfl) (fun _ => ?_)
 refine st (ov_move (v := vl) rfl ?_)
 refine st (ov_call (f := 8) (vals := [vl]) (cap := []) (show _ = (.func (.func 8) #[] #[] : Value) from rfl) rfl Try.call8 (D_long (l := l) (vl := vl) hl hS0) ?_)
 rintro _ w3 ⟨b1, rfl, hb2, hS4⟩
 refine st_nil ?_
 cases hc5 : b1
 ·skip
  have hc5r := hc5
  obtain ⟨hf9, _⟩ := hb2 hc5r
  refine WP_cond_f rfl ?_
  refine WP_skip ?_
  refine WP_seq ?_
  refine WP_region0 (by kernel_rfl) (fun _ => ?_)
  refine st (ov_move (v := .int .i64 (n)) rfl ?_)
  refine st (ov_call (f := 10) (vals := [.int .i64 (n), .int .i64 (64)]) (cap := []) (show _ = (.func (.func 10) #[] #[] : Value) from rfl) rfl Try.call10 (D_PickF (x := n) (n := 64) hn (by first | omega | (refine ⟨?_, ?_⟩ <;> omega)) hS4) ?_)
  rintro _ w9 ⟨q6, rfl, hq7, hqe8, hS10⟩
  have hr11 : InR ((1 + q6 : Nat) : Int) := by first | omega | (simp only [lens]; omega)
  refine st (ov_add (r := ((1 + q6 : Nat) : Int)) (k := .i64) (a := 1) (b := ((q6 : Nat) : Int)) rfl rfl (by rw [show (1 + ((q6 : Nat) : Int) : Int) = ((1 + q6 : Nat) : Int) by first | omega | (simp only [lens]; omega)]; exact wrap_in hr11) ?_)
  refine st (ov_assign (v := .int .i64 ((1 + q6 : Nat) : Int)) rfl ?_)
  refine st_nil ?_
  refine WP_seq ?_
  refine WP_region0 (by kernel_rfl) (fun _ => ?_)
  refine st (ov_move (v := .int .i64 ((1 + q6 : Nat) : Int)) rfl ?_)
  refine st (ov_call (f := 11) (vals := [.int .i64 ((1 + q6 : Nat) : Int)]) (cap := []) (show _ = (.func (.func 11) #[] #[] : Value) from rfl) rfl Try.call11 (D_NewSet (n := 1 + q6) (by first | omega | (refine ⟨?_, ?_⟩ <;> omega)) hS10) ?_)
  rintro _ w13 ⟨b12, rfl, hS14⟩
  refine st (ov_assign (v := .pointer (some ⟨b12, 0, none⟩)) rfl ?_)
  refine st_nil ?_
  refine WP_seq ?_
  refine WP_region0 (by kernel_rfl) (fun _ => ?_)
  refine st (ov_call (f := 12) (vals := [.int .i64 (256)]) (cap := []) (show _ = (.func (.func 12) #[] #[] : Value) from rfl) rfl Try.call12 (D_bNew (x := 256) (by decide) hS14) ?_)
  rintro _ w16 ⟨b15, rfl, hS17⟩
  refine st (ov_assign (v := .pointer (some ⟨b15, 0, none⟩)) rfl ?_)
  refine st_nil ?_
  refine WP_seq ?_
  refine WP_region0 (by kernel_rfl) (fun _ => ?_)
  refine st (ov_call (f := 12) (vals := [.int .i64 (256)]) (cap := []) (show _ = (.func (.func 12) #[] #[] : Value) from rfl) rfl Try.call12 (D_bNew (x := 256) (by decide) hS17) ?_)
  rintro _ w19 ⟨b18, rfl, hS20⟩
  refine st (ov_assign (v := .pointer (some ⟨b18, 0, none⟩)) rfl ?_)
  refine st_nil ?_
  refine WP_seq ?_
  refine WP_seq ?_
  refine WP_region (by kernel_rfl) ?_
  refine st (ov_move (v := .pointer (some ⟨b12, 0, none⟩)) rfl ?_)
  refine st (ov_eqlPtr (b := b12) (o := 0) Try.underlying26 rfl ?_)
  refine st (ov_move (v := .bool false) rfl ?_)
  refine sty rfl rfl (ov_move (v := .pointer (some ⟨b15, 0, none⟩)) rfl ?_)
  refine sty rfl rfl (ov_eqlPtr (b := b15) (o := 0) Try.underlying28 rfl ?_)
  refine st (ov_pick_f (v := .bool false) rfl rfl ?_)
  refine st (ov_move (v := .bool false) rfl ?_)
  refine sty rfl rfl (ov_move (v := .pointer (some ⟨b18, 0, none⟩)) rfl ?_)
  refine sty rfl rfl (ov_eqlPtr (b := b18) (o := 0) Try.underlying28 rfl ?_)
  refine st (ov_pick_f (v := .bool false) rfl rfl ?_)
  refine st_nil ?_
  refine WP_cond_f rfl ?_
  refine WP_skip ?_
  refine WP_seq ?_
  refine WP_region0 (by kernel_rfl) (fun _ => ?_)
  refine st (ov_assign (v := (.slice none 0 0)) rfl ?_)
  refine st_nil ?_
  refine WP_seq ?_
  refine WP_seq ?_
  refine WP_region0 (by kernel_rfl) (fun _ => ?_)
  refine st (ov_assign (v := .int .i64 (0)) rfl ?_)
  refine st_nil ?_
  refine WP_block ?_
  have hS21 : Sep G W ((RowE (α := Ev) (shr G W) 36 (.slice none 0 0) ([] : List Ev)) :: (BufO b18 (max 0 (min 256 256)) ([] : List Ev)) :: (BufO b15 (max 0 (min 256 256)) ([] : List Ev)) :: (SetO b12 (1 + q6) ([] : List Ev)) :: Rs) w19 := hS20.rowNil (shr G W) 36
  refine WP_loop (fun mq σ wq => ∃ (k : Nat) (vo : Value) (ρ : Env), mq = l.length - k ∧ σ = setAll ρ [(0, .int .i64 ((1 + q6 : Nat) : Int)), (1, vl), (2, .int .i64 (first)), (7, .pointer (some ⟨b12, 0, none⟩)), (8, .pointer (some ⟨b15, 0, none⟩)), (9, .pointer (some ⟨b18, 0, none⟩)), (11, .int .i64 ((k : Nat) : Int)), (10, vo)] ∧ (k ≤ l.length) ∧ Sep G W ((RowE (α := Ev) (shr G W) 36 vo (ownL l k)) :: (BufO b18 (max 0 (min 256 256)) ([] : List Ev)) :: (BufO b15 (max 0 (min 256 256)) ([] : List Ev)) :: (SetO b12 (1 + q6) ([] : List Ev)) :: Rs) wq) ⟨0, (.slice none 0 0), _, rfl, setAll_self ⟨rfl, rfl, rfl, rfl, rfl, rfl, rfl, rfl, trivial⟩, Nat.zero_le _, hS21⟩ ?_
  rintro m23 σ24 w22 ⟨k, vo, ρl1, rfl, rfl, hkk, hS25⟩
  have hr26 := hS25.row (i := 0) rfl
  have hr26s : (ownL l k).length * 96 ≤ 140737488355328 := hr26.2
  have hown9 := own_len (l := l) (k := k)
  refine WP_seq ?_
  refine WP_seq ?_
  refine WP_region0 (by kernel_rfl) (fun _ => ?_)
  refine st (ov_move (v := .int .i64 ((k : Nat) : Int)) rfl ?_)
  refine st (ov_move (v := vl) rfl ?_)
  refine st (ov_len (n := l.length) Try.underlying22 rfl hl.sl ?_)
  refine st (ov_lss (k := .i64) (a := ((k : Nat) : Int)) (b := ((l.length : Nat) : Int)) rfl rfl ?_)
  refine st_nil ?_
  cases hc27 : decide (((k : Nat) : Int) < ((l.length : Nat) : Int))
  ·skip
   have hc27r := hc27
   have hc27 := of_decide_eq_false hc27
   refine WP_cond_f rfl ?_
   refine WP_exit ?_
   refine blk_exit ?_
   refine WP_seq ?_
   obtain rfl : k = l.length := by omega
   have hWl : (ownL l l.length).length ≤ 60 := Nat.le_trans own_len (by omega)
   have hWi : ((ownL l l.length).map idE).Nodup := own_ids (Nat.le_refl _)
   obtain ⟨W9, hW9⟩ : ∃ W9, ownL l l.length = W9 := ⟨_, rfl⟩
   rw [hW9] at hWl hWi
   rw [hW9] at hS25
   have hS28 : Sep G W ((RowE (α := Ev) (shr G W) 36 vo W9) :: (BufO b18 (max 0 (min 256 256)) ([] : List Ev)) :: (BufO b15 (max 0 (min 256 256)) ([] : List Ev)) :: (SetO b12 (1 + q6) ([] : List Ev)) :: Rs) w22 := hS25
   have hr29 := hS28.row (i := 0) rfl
   have hr29s : W9.length * 96 ≤ 140737488355328 := hr29.2
   refine WP_region0 (by kernel_rfl) (fun _ => ?_)
   refine st (ov_move (v := .int .i64 (first)) rfl ?_)
   refine st (ov_move (v := vo) rfl ?_)
   refine st (ov_len (n := W9.length) Try.underlying22 rfl hr29.1 ?_)
   have hr30 : InR ((W9.length + 1 : Nat) : Int) := by first | omega | (simp only [lens]; omega)
   refine st (ov_add (r := ((W9.length + 1 : Nat) : Int)) (k := .i64) (a := ((W9.length : Nat) : Int)) (b := 1) rfl rfl (by rw [show (((W9.length : Nat) : Int) + 1 : Int) = ((W9.length + 1 : Nat) : Int) by first | omega | (simp only [lens]; omega)]; exact wrap_in hr30) ?_)
   refine st (ov_call (f := 10) (vals := [.int .i64 (first), .int .i64 ((W9.length + 1 : Nat) : Int)]) (cap := []) (show _ = (.func (.func 10) #[] #[] : Value) from rfl) rfl Try.call10 (D_PickF (x := first) (n := W9.length + 1) hfirst (by first | omega | (refine ⟨?_, ?_⟩ <;> omega)) hS28) ?_)
   rintro _ w34 ⟨q31, rfl, hq32, hqe33, hS35⟩
   refine st (ov_assign (v := .int .i64 ((q31 : Nat) : Int)) rfl ?_)
   refine st_nil ?_
   refine WP_seq ?_
   refine WP_seq ?_
   refine WP_region0 (by kernel_rfl) (fun _ => ?_)
   refine st (ov_assign (v := .int .i64 (0)) rfl ?_)
   refine st_nil ?_
   refine WP_block ?_
   refine WP_loop (fun mq σ wq => ∃ (k : Nat) (ρ : Env), mq = W9.length - k ∧ σ = setAll ρ [(2, .int .i64 ((q31 : Nat) : Int)), (7, .pointer (some ⟨b12, 0, none⟩)), (8, .pointer (some ⟨b15, 0, none⟩)), (9, .pointer (some ⟨b18, 0, none⟩)), (10, vo), (12, .int .i64 ((k : Nat) : Int))] ∧ (k ≤ W9.length) ∧ Sep G W ((RowE (α := Ev) (shr G W) 36 vo W9) :: (BufO b18 (max 0 (min 256 256)) (sortE (rotL W9 q31 k))) :: (BufO b15 (max 0 (min 256 256)) (sortE (W9.take k))) :: (SetO b12 (1 + q6) ([] : List Ev)) :: Rs) wq) ⟨0, _, rfl, setAll_self ⟨rfl, rfl, rfl, rfl, rfl, rfl, trivial⟩, Nat.zero_le _, hS35⟩ ?_
   rintro m37 σ38 w36 ⟨k, ρl2, rfl, rfl, hkk, hS39⟩
   refine WP_seq ?_
   refine WP_seq ?_
   refine WP_region0 (by kernel_rfl) (fun _ => ?_)
   refine st (ov_move (v := .int .i64 ((k : Nat) : Int)) rfl ?_)
   refine st (ov_move (v := vo) rfl ?_)
   refine st (ov_len (n := W9.length) Try.underlying22 rfl hr29.1 ?_)
   refine st (ov_lss (k := .i64) (a := ((k : Nat) : Int)) (b := ((W9.length : Nat) : Int)) rfl rfl ?_)
   refine st_nil ?_
   cases hc40 : decide (((k : Nat) : Int) < ((W9.length : Nat) : Int))
   ·skip
    have hc40r := hc40
    have hc40 := of_decide_eq_false hc40
    refine WP_cond_f rfl ?_
    refine WP_exit ?_
    refine blk_exit ?_
    refine WP_seq ?_
    obtain rfl : k = W9.length := by omega
    have hte9 := turn_endB (f := q31) hWi
    rw [List.take_length] at hS39
    have hS41 : Sep G W ((RowE (α := Ev) (shr G W) 36 vo W9) :: (BufO b18 (max 0 (min 256 256)) (sortE (rotL W9 q31 W9.length))) :: (BufO b15 (max 0 (min 256 256)) (sortE W9)) :: (SetO b12 (1 + q6) ([] : List Ev)) :: Rs) w36 := hS39
    rw [hte9] at hS41
    have hS42 : Sep G W ((RowE (α := Ev) (shr G W) 36 vo W9) :: (BufO b18 (max 0 (min 256 256)) (sortE W9)) :: (BufO b15 (max 0 (min 256 256)) (sortE W9)) :: (SetO b12 (1 + q6) ([] : List Ev)) :: Rs) w36 := hS41
    have hsw9 : (sortE W9).length ≤ 60 := by rw [sort_len]; omega
    refine WP_region (by kernel_rfl) ?_
    refine st (ov_move (v := .pointer (some ⟨b15, 0, none⟩)) rfl ?_)
    refine st (ov_move (v := .pointer (some ⟨b12, 0, none⟩)) rfl ?_)
    have hS43 : Sep G W ((SetO b12 (1 + q6) ([] : List Ev)) :: (RowE (α := Ev) (shr G W) 36 vo W9) :: (BufO b18 (max 0 (min 256 256)) (sortE W9)) :: (BufO b15 (max 0 (min 256 256)) (sortE W9)) :: Rs) w36 := hS42.sel 4 [3, 0, 1, 2] (Nat.le_add_left _ _) rfl rfl
    obtain ⟨G44, hA46, hB47, hS48, hk49⟩ := hS43.lend
    obtain ⟨vv50, m51, R52, hb53, hv54, hr55⟩ := SetO.sh hA46
    have hsm56 : (vecE (1 + q6) ([] : List Ev)).length * 8 ≤ 140737488355328 := hv54.small
    have hS57 : Sep G44 w36 ((BufO b15 (max 0 (min 256 256)) (sortE W9)) :: (RowE (α := Ev) (shr G W) 36 vo W9) :: (BufO b18 (max 0 (min 256 256)) (sortE W9)) :: Rs) w36 := hS48.sel 3 [2, 0, 1] (Nat.le_add_left _ _) rfl rfl
    refine st (ov_call (f := 17) (vals := [.pointer (some ⟨b15, 0, none⟩), .pointer (some ⟨b12, 0, none⟩)]) (cap := []) (show _ = (.func (.func 17) #[] #[] : Value) from rfl) rfl Try.call17 (D_Ready  hA46 hS57 ((by decide)) (Good.nil) (by omega) ((by rw [List.length_nil]; omega))) ?_)
    rintro v58 w59 ⟨_, rfl, hS60⟩
    have hr61 := hS60.row (i := 0) rfl
    have hr61s : (rdyO (1 + q6) ([] : List Ev) ((sortE W9).filter (fun x => !hadE ([] : List Ev) x))).length * 96 ≤ 140737488355328 := hr61.2
    have hS62 : Sep G W ((SetO b12 (1 + q6) ([] : List Ev)) :: (RowE (α := Ev) own 36 v58 (rdyO (1 + q6) ([] : List Ev) ((sortE W9).filter (fun x => !hadE ([] : List Ev) x)))) :: (BufO b15 (max 0 (min 256 256)) (rdyB (1 + q6) ([] : List Ev) ((sortE W9).filter (fun x => !hadE ([] : List Ev) x)))) :: (RowE (α := Ev) (shr G W) 36 vo W9) :: (BufO b18 (max 0 (min 256 256)) (sortE W9)) :: Rs) w59 := hk49 _ _ hS60
    refine st (ov_move (v := .pointer (some ⟨b18, 0, none⟩)) rfl ?_)
    refine st (ov_move (v := .pointer (some ⟨b12, 0, none⟩)) rfl ?_)
    obtain ⟨G63, hA65, hB66, hS67, hk68⟩ := hS62.lend
    obtain ⟨vv69, m70, R71, hb72, hv73, hr74⟩ := SetO.sh hA65
    have hsm75 : (vecE (1 + q6) ([] : List Ev)).length * 8 ≤ 140737488355328 := hv73.small
    have hS76 : Sep G63 w59 ((BufO b18 (max 0 (min 256 256)) (sortE W9)) :: (RowE (α := Ev) own 36 v58 (rdyO (1 + q6) ([] : List Ev) ((sortE W9).filter (fun x => !hadE ([] : List Ev) x)))) :: (BufO b15 (max 0 (min 256 256)) (rdyB (1 + q6) ([] : List Ev) ((sortE W9).filter (fun x => !hadE ([] : List Ev) x)))) :: (RowE (α := Ev) (shr G W) 36 vo W9) :: Rs) w59 := hS67.sel 4 [3, 0, 1, 2] (Nat.le_add_left _ _) rfl rfl
    refine st (ov_call (f := 17) (vals := [.pointer (some ⟨b18, 0, none⟩), .pointer (some ⟨b12, 0, none⟩)]) (cap := []) (show _ = (.func (.func 17) #[] #[] : Value) from rfl) rfl Try.call17 (D_Ready  hA65 hS76 ((by decide)) (Good.nil) (by omega) ((by rw [List.length_nil]; omega))) ?_)
    rintro v77 w78 ⟨_, rfl, hS79⟩
    have hr80 := hS79.row (i := 0) rfl
    have hr80s : (rdyO (1 + q6) ([] : List Ev) ((sortE W9).filter (fun x => !hadE ([] : List Ev) x))).length * 96 ≤ 140737488355328 := hr80.2
    have hS81 : Sep G W ((SetO b12 (1 + q6) ([] : List Ev)) :: (RowE (α := Ev) own 36 v77 (rdyO (1 + q6) ([] : List Ev) ((sortE W9).filter (fun x => !hadE ([] : List Ev) x)))) :: (BufO b18 (max 0 (min 256 256)) (rdyB (1 + q6) ([] : List Ev) ((sortE W9).filter (fun x => !hadE ([] : List Ev) x)))) :: (RowE (α := Ev) own 36 v58 (rdyO (1 + q6) ([] : List Ev) ((sortE W9).filter (fun x => !hadE ([] : List Ev) x)))) :: (BufO b15 (max 0 (min 256 256)) (rdyB (1 + q6) ([] : List Ev) ((sortE W9).filter (fun x => !hadE ([] : List Ev) x)))) :: (RowE (α := Ev) (shr G W) 36 vo W9) :: Rs) w78 := hk68 _ _ hS79
    have hS82 : Sep G W ((RowE (α := Ev) own 36 v58 (rdyO (1 + q6) ([] : List Ev) ((sortE W9).filter (fun x => !hadE ([] : List Ev) x)))) :: (SetO b12 (1 + q6) ([] : List Ev)) :: (RowE (α := Ev) own 36 v77 (rdyO (1 + q6) ([] : List Ev) ((sortE W9).filter (fun x => !hadE ([] : List Ev) x)))) :: (BufO b18 (max 0 (min 256 256)) (rdyB (1 + q6) ([] : List Ev) ((sortE W9).filter (fun x => !hadE ([] : List Ev) x)))) :: (BufO b15 (max 0 (min 256 256)) (rdyB (1 + q6) ([] : List Ev) ((sortE W9).filter (fun x => !hadE ([] : List Ev) x)))) :: (RowE (α := Ev) (shr G W) 36 vo W9) :: Rs) w78 := hS81.sel 6 [3, 0, 1, 2, 4, 5] (Nat.le_add_left _ _) rfl rfl
    obtain ⟨G83, hA85, hB86, hS87, hk88⟩ := hS82.lend
    have hrd89 := RowE.rd hA85
    have hrd89s : (rdyO (1 + q6) ([] : List Ev) ((sortE W9).filter (fun x => !hadE ([] : List Ev) x))).length * 96 ≤ 140737488355328 := hrd89.small
    have hS90 : Sep G83 w78 ((RowE (α := Ev) own 36 v77 (rdyO (1 + q6) ([] : List Ev) ((sortE W9).filter (fun x => !hadE ([] : List Ev) x)))) :: (SetO b12 (1 + q6) ([] : List Ev)) :: (BufO b18 (max 0 (min 256 256)) (rdyB (1 + q6) ([] : List Ev) ((sortE W9).filter (fun x => !hadE ([] : List Ev) x)))) :: (BufO b15 (max 0 (min 256 256)) (rdyB (1 + q6) ([] : List Ev) ((sortE W9).filter (fun x => !hadE ([] : List Ev) x)))) :: (RowE (α := Ev) (shr G W) 36 vo W9) :: Rs) w78 := hS87.sel 5 [1, 0, 2, 3, 4] (Nat.le_add_left _ _) rfl rfl
    obtain ⟨G91, hA93, hB94, hS95, hk96⟩ := hS90.lend
    have hrd97 := RowE.rd hA93
    have hrd97s : (rdyO (1 + q6) ([] : List Ev) ((sortE W9).filter (fun x => !hadE ([] : List Ev) x))).length * 96 ≤ 140737488355328 := hrd97.small
    refine st (ov_call (f := 19) (vals := [v58, v77]) (cap := []) (show _ = (.func (.func 19) #[] #[] : Value) from rfl) rfl Try.call19 (D_sameEvents (a := (rdyO (1 + q6) ([] : List Ev) ((sortE W9).filter (fun x => !hadE ([] : List Ev) x)))) (va := v58) (b := (rdyO (1 + q6) ([] : List Ev) ((sortE W9).filter (fun x => !hadE ([] : List Ev) x)))) (vb := v77) (RdS.base hrd89 hB94) hrd97 hS95) ?_)
    rintro _ w98 ⟨rfl, hS99⟩
    have hS100 : Sep G83 w78 ((RowE (α := Ev) own 36 v77 (rdyO (1 + q6) ([] : List Ev) ((sortE W9).filter (fun x => !hadE ([] : List Ev) x)))) :: (SetO b12 (1 + q6) ([] : List Ev)) :: (BufO b18 (max 0 (min 256 256)) (rdyB (1 + q6) ([] : List Ev) ((sortE W9).filter (fun x => !hadE ([] : List Ev) x)))) :: (BufO b15 (max 0 (min 256 256)) (rdyB (1 + q6) ([] : List Ev) ((sortE W9).filter (fun x => !hadE ([] : List Ev) x)))) :: (RowE (α := Ev) (shr G W) 36 vo W9) :: Rs) w98 := hk96 _ _ hS99
    have hS101 : Sep G W ((RowE (α := Ev) own 36 v58 (rdyO (1 + q6) ([] : List Ev) ((sortE W9).filter (fun x => !hadE ([] : List Ev) x)))) :: (RowE (α := Ev) own 36 v77 (rdyO (1 + q6) ([] : List Ev) ((sortE W9).filter (fun x => !hadE ([] : List Ev) x)))) :: (SetO b12 (1 + q6) ([] : List Ev)) :: (BufO b18 (max 0 (min 256 256)) (rdyB (1 + q6) ([] : List Ev) ((sortE W9).filter (fun x => !hadE ([] : List Ev) x)))) :: (BufO b15 (max 0 (min 256 256)) (rdyB (1 + q6) ([] : List Ev) ((sortE W9).filter (fun x => !hadE ([] : List Ev) x)))) :: (RowE (α := Ev) (shr G W) 36 vo W9) :: Rs) w98 := hk88 _ _ hS100
    have hkn102 : (decide ((rdyO (1 + q6) ([] : List Ev) ((sortE W9).filter (fun x => !hadE ([] : List Ev) x))) = (rdyO (1 + q6) ([] : List Ev) ((sortE W9).filter (fun x => !hadE ([] : List Ev) x))))) = true := decide_eq_true rfl
    rw [hkn102]
    refine st (ov_move (v := .bool true) rfl ?_)
    refine sty rfl rfl (ov_move (v := .pointer (some ⟨b15, 0, none⟩)) rfl ?_)
    have hS103 : Sep G W ((BufO b15 (max 0 (min 256 256)) (rdyB (1 + q6) ([] : List Ev) ((sortE W9).filter (fun x => !hadE ([] : List Ev) x)))) :: (RowE (α := Ev) own 36 v58 (rdyO (1 + q6) ([] : List Ev) ((sortE W9).filter (fun x => !hadE ([] : List Ev) x)))) :: (RowE (α := Ev) own 36 v77 (rdyO (1 + q6) ([] : List Ev) ((sortE W9).filter (fun x => !hadE ([] : List Ev) x)))) :: (SetO b12 (1 + q6) ([] : List Ev)) :: (BufO b18 (max 0 (min 256 256)) (rdyB (1 + q6) ([] : List Ev) ((sortE W9).filter (fun x => !hadE ([] : List Ev) x)))) :: (RowE (α := Ev) (shr G W) 36 vo W9) :: Rs) w98 := hS101.sel 6 [4, 0, 1, 2, 3, 5] (Nat.le_add_left _ _) rfl rfl
    obtain ⟨G104, hA106, hB107, hS108, hk109⟩ := hS103.lend
    obtain ⟨vl110, hb111, hl112⟩ := BufO.sh hA106
    have hsm113 : (rdyB (1 + q6) ([] : List Ev) ((sortE W9).filter (fun x => !hadE ([] : List Ev) x))).length * 96 ≤ 140737488355328 := hl112.small
    refine sty rfl rfl (ov_call (f := 18) (vals := [.pointer (some ⟨b15, 0, none⟩)]) (cap := []) (show _ = (.func (.func 18) #[] #[] : Value) from rfl) rfl Try.call18 (D_bLen  hA106 hS108) ?_)
    rintro _ w114 ⟨rfl, hS115⟩
    have hS116 : Sep G W ((BufO b15 (max 0 (min 256 256)) (rdyB (1 + q6) ([] : List Ev) ((sortE W9).filter (fun x => !hadE ([] : List Ev) x)))) :: (RowE (α := Ev) own 36 v58 (rdyO (1 + q6) ([] : List Ev) ((sortE W9).filter (fun x => !hadE ([] : List Ev) x)))) :: (RowE (α := Ev) own 36 v77 (rdyO (1 + q6) ([] : List Ev) ((sortE W9).filter (fun x => !hadE ([] : List Ev) x)))) :: (SetO b12 (1 + q6) ([] : List Ev)) :: (BufO b18 (max 0 (min 256 256)) (rdyB (1 + q6) ([] : List Ev) ((sortE W9).filter (fun x => !hadE ([] : List Ev) x)))) :: (RowE (α := Ev) (shr G W) 36 vo W9) :: Rs) w114 := hk109 _ _ hS115
    refine sty rfl rfl (ov_move (v := .pointer (some ⟨b18, 0, none⟩)) rfl ?_)
    have hS117 : Sep G W ((BufO b18 (max 0 (min 256 256)) (rdyB (1 + q6) ([] : List Ev) ((sortE W9).filter (fun x => !hadE ([] : List Ev) x)))) :: (BufO b15 (max 0 (min 256 256)) (rdyB (1 + q6) ([] : List Ev) ((sortE W9).filter (fun x => !hadE ([] : List Ev) x)))) :: (RowE (α := Ev) own 36 v58 (rdyO (1 + q6) ([] : List Ev) ((sortE W9).filter (fun x => !hadE ([] : List Ev) x)))) :: (RowE (α := Ev) own 36 v77 (rdyO (1 + q6) ([] : List Ev) ((sortE W9).filter (fun x => !hadE ([] : List Ev) x)))) :: (SetO b12 (1 + q6) ([] : List Ev)) :: (RowE (α := Ev) (shr G W) 36 vo W9) :: Rs) w114 := hS116.sel 6 [4, 0, 1, 2, 3, 5] (Nat.le_add_left _ _) rfl rfl
    obtain ⟨G118, hA120, hB121, hS122, hk123⟩ := hS117.lend
    obtain ⟨vl124, hb125, hl126⟩ := BufO.sh hA120
    have hsm127 : (rdyB (1 + q6) ([] : List Ev) ((sortE W9).filter (fun x => !hadE ([] : List Ev) x))).length * 96 ≤ 140737488355328 := hl126.small
    refine sty rfl rfl (ov_call (f := 18) (vals := [.pointer (some ⟨b18, 0, none⟩)]) (cap := []) (show _ = (.func (.func 18) #[] #[] : Value) from rfl) rfl Try.call18 (D_bLen  hA120 hS122) ?_)
    rintro _ w128 ⟨rfl, hS129⟩
    have hS130 : Sep G W ((BufO b18 (max 0 (min 256 256)) (rdyB (1 + q6) ([] : List Ev) ((sortE W9).filter (fun x => !hadE ([] : List Ev) x)))) :: (BufO b15 (max 0 (min 256 256)) (rdyB (1 + q6) ([] : List Ev) ((sortE W9).filter (fun x => !hadE ([] : List Ev) x)))) :: (RowE (α := Ev) own 36 v58 (rdyO (1 + q6) ([] : List Ev) ((sortE W9).filter (fun x => !hadE ([] : List Ev) x)))) :: (RowE (α := Ev) own 36 v77 (rdyO (1 + q6) ([] : List Ev) ((sortE W9).filter (fun x => !hadE ([] : List Ev) x)))) :: (SetO b12 (1 + q6) ([] : List Ev)) :: (RowE (α := Ev) (shr G W) 36 vo W9) :: Rs) w128 := hk123 _ _ hS129
    refine sty rfl rfl (ov_eql (k := .i64) (a := (((rdyB (1 + q6) ([] : List Ev) ((sortE W9).filter (fun x => !hadE ([] : List Ev) x))).length : Nat) : Int)) (b := (((rdyB (1 + q6) ([] : List Ev) ((sortE W9).filter (fun x => !hadE ([] : List Ev) x))).length : Nat) : Int)) rfl rfl ?_)
    have hkn131 : (decide ((((rdyB (1 + q6) ([] : List Ev) ((sortE W9).filter (fun x => !hadE ([] : List Ev) x))).length : Nat) : Int) = (((rdyB (1 + q6) ([] : List Ev) ((sortE W9).filter (fun x => !hadE ([] : List Ev) x))).length : Nat) : Int))) = true := decide_eq_true rfl
    rw [hkn131]
    refine st (ov_pick_t (v := .bool true) rfl rfl ?_)
    refine st (ov_move (v := .bool true) rfl ?_)
    refine sty rfl rfl (ov_call (f := 9) (vals := []) (cap := []) (show _ = (.func (.func 9) #[] #[] : Value) from rfl) rfl Try.call9 (D_known25  hS130) ?_)
    rintro _ w132 ⟨rfl, hS133⟩
    refine st (ov_pick_t (v := .bool true) rfl rfl ?_)
    refine st (ov_assign (v := .bool true) rfl ?_)
    refine st_nil ?_
    refine WP_ret ?_
    refine fin1 Try.results4 (show _ = (.bool true : Value) from rfl) ?_
    have hS134 : Sep G W Rs w132 := hS133.sel 6 [] (Nat.le_add_left _ _) rfl rfl
    refine ⟨rfl, hS134⟩
   ·skip
    have hc40r := hc40
    have hc40 := of_decide_eq_true hc40
    refine WP_cond_t rfl ?_
    refine WP_skip ?_
    refine WP_seq ?_
    refine WP_block ?_
    refine WP_seq ?_
    have hta9 := turn_a (m := (max 0 (min 256 256))) (k := k) hWi (by omega) (by omega)
    have htb9 := turn_b (m := (max 0 (min 256 256))) (k := k) (f := q31) hWi (by omega) (by omega)
    have hri9 := rot_at (W := W9) (f := q31) (k := k) (by omega)
    refine WP_region (by kernel_rfl) ?_
    refine st (ov_move (v := .pointer (some ⟨b15, 0, none⟩)) rfl ?_)
    refine st (ov_move (v := vo) rfl ?_)
    refine st (ov_move (v := .int .i64 ((k : Nat) : Int)) rfl ?_)
    have hi135 : k < W9.length := (by first | omega | (simp only [lens]; omega))
    refine st (ov_indexAddrN (k := 10) (i := k) Try.underlying22 Try.sizeOf36 rfl hr29.1 rfl hi135 ?_)
    have hi137 : k < W9.length := (by first | omega | (simp only [lens]; omega))
    obtain ⟨_, _, hce136, de136_0, rfl, hde136_0, hoke136⟩ := hS39.rowAt (i := 0) (j := k) rfl hi137
    rw [← getD_at default hi137] at hce136 hde136_0 hoke136
    refine st (ov_loadk (k := 10) Try.isAgg36 Try.sizeOf36 rfl rfl hce136 ?_)
    have hS138 : Sep G W ((BufO b15 (max 0 (min 256 256)) (sortE (W9.take k))) :: (RowE (α := Ev) (shr G W) 36 vo W9) :: (BufO b18 (max 0 (min 256 256)) (sortE (rotL W9 q31 k))) :: (SetO b12 (1 + q6) ([] : List Ev)) :: Rs) w36 := hS39.sel 4 [2, 0, 1, 3] (Nat.le_add_left _ _) rfl rfl
    refine st (ov_call (f := 14) (vals := [.pointer (some ⟨b15, 0, none⟩), .agg ((W9.getD k default).cells de136_0).toArray]) (cap := []) (show _ = (.func (.func 14) #[] #[] : Value) from rfl) rfl Try.call14 (D_bAddL (e := (W9.getD k default)) hde136_0 hoke136 hS138 ((by decide)) (by first | exact sortE_srt (List.Nodup.sublist ((List.take_sublist ..).map idE) hWi) | exact sortE_srt (rot_ids hWi (by omega))) ((by rw [sort_len]; first | (rw [rot_len]; omega) | (rw [List.length_take]; omega)))) ?_)
    rintro _ w139 ⟨rfl, hS140⟩
    refine st (ov_not (a := (bAddB (max 0 (min 256 256)) (sortE (W9.take k)) (W9.getD k default))) rfl ?_)
    have hkn141 : (!(bAddB (max 0 (min 256 256)) (sortE (W9.take k)) (W9.getD k default))) = false := (by rw [hta9.1]; rfl)
    rw [hkn141]
    refine st (ov_move (v := .bool false) rfl ?_)
    refine sty rfl rfl (ov_move (v := .pointer (some ⟨b18, 0, none⟩)) rfl ?_)
    refine sty rfl rfl (ov_move (v := vo) rfl ?_)
    refine sty rfl rfl (ov_move (v := vo) rfl ?_)
    refine sty rfl rfl (ov_len (n := W9.length) Try.underlying22 rfl hr29.1 ?_)
    have hr142 : InR ((W9.length - 1 : Nat) : Int) := by first | omega | (simp only [lens]; omega)
    refine sty rfl rfl (ov_sub (r := ((W9.length - 1 : Nat) : Int)) (k := .i64) (a := ((W9.length : Nat) : Int)) (b := 1) rfl rfl (by rw [show (((W9.length : Nat) : Int) - 1 : Int) = ((W9.length - 1 : Nat) : Int) by first | omega | (simp only [lens]; omega)]; exact wrap_in hr142) ?_)
    refine sty rfl rfl (ov_move (v := .int .i64 ((k : Nat) : Int)) rfl ?_)
    have hr143 : InR (((W9.length - 1) - k : Nat) : Int) := by first | omega | (simp only [lens]; omega)
    refine sty rfl rfl (ov_sub (r := (((W9.length - 1) - k : Nat) : Int)) (k := .i64) (a := ((W9.length - 1 : Nat) : Int)) (b := ((k : Nat) : Int)) rfl rfl (by rw [show (((W9.length - 1 : Nat) : Int) - ((k : Nat) : Int) : Int) = (((W9.length - 1) - k : Nat) : Int) by first | omega | (simp only [lens]; omega)]; exact wrap_in hr143) ?_)
    refine sty rfl rfl (ov_move (v := .int .i64 ((q31 : Nat) : Int)) rfl ?_)
    have hr144 : InR (((W9.length - 1) - k + q31 : Nat) : Int) := by first | omega | (simp only [lens]; omega)
    refine sty rfl rfl (ov_add (r := (((W9.length - 1) - k + q31 : Nat) : Int)) (k := .i64) (a := (((W9.length - 1) - k : Nat) : Int)) (b := ((q31 : Nat) : Int)) rfl rfl (by rw [show ((((W9.length - 1) - k : Nat) : Int) + ((q31 : Nat) : Int) : Int) = (((W9.length - 1) - k + q31 : Nat) : Int) by first | omega | (simp only [lens]; omega)]; exact wrap_in hr144) ?_)
    refine sty rfl rfl (ov_move (v := vo) rfl ?_)
    refine sty rfl rfl (ov_len (n := W9.length) Try.underlying22 rfl hr29.1 ?_)
    have h0145 : (0 : Int) < ((W9.length : Nat) : Int) := by omega
    have h0145m : ((W9.length - 1) - k + q31) % W9.length < W9.length := Nat.mod_lt _ (by omega)
    refine sty rfl rfl (ov_rem (r := ((((W9.length - 1) - k + q31) % W9.length : Nat) : Int)) rfl rfl h0145 (Int.ofNat_tmod _ _).symm ?_)
    have hi146 : ((W9.length - 1) - k + q31) % W9.length < W9.length := hri9
    refine sty rfl rfl (ov_indexAddrN (k := 10) (i := ((W9.length - 1) - k + q31) % W9.length) Try.underlying22 Try.sizeOf36 rfl hr29.1 rfl hi146 ?_)
    have hi148 : ((W9.length - 1) - k + q31) % W9.length < W9.length := (by first | omega | (simp only [lens]; omega))
    obtain ⟨_, _, hce147, de147_0, rfl, hde147_0, hoke147⟩ := hS140.rowAt (i := 1) (j := ((W9.length - 1) - k + q31) % W9.length) rfl hi148
    rw [← getD_at default hi148] at hce147 hde147_0 hoke147
    refine sty rfl rfl (ov_loadk (k := 10) Try.isAgg36 Try.sizeOf36 rfl rfl hce147 ?_)
    have hS149 : Sep G W ((BufO b18 (max 0 (min 256 256)) (sortE (rotL W9 q31 k))) :: (BufO b15 (max 0 (min 256 256)) (bAddL (max 0 (min 256 256)) (sortE (W9.take k)) (W9.getD k default))) :: (RowE (α := Ev) (shr G W) 36 vo W9) :: (SetO b12 (1 + q6) ([] : List Ev)) :: Rs) w139 := hS140.sel 4 [2, 0, 1, 3] (Nat.le_add_left _ _) rfl rfl
    refine sty rfl rfl (ov_call (f := 14) (vals := [.pointer (some ⟨b18, 0, none⟩), .agg ((W9.getD (((W9.length - 1) - k + q31) % W9.length) default).cells de147_0).toArray]) (cap := []) (show _ = (.func (.func 14) #[] #[] : Value) from rfl) rfl Try.call14 (D_bAddL (e := (W9.getD (((W9.length - 1) - k + q31) % W9.length) default)) hde147_0 hoke147 hS149 ((by decide)) (by first | exact sortE_srt (List.Nodup.sublist ((List.take_sublist ..).map idE) hWi) | exact sortE_srt (rot_ids hWi (by omega))) ((by rw [sort_len]; first | (rw [rot_len]; omega) | (rw [List.length_take]; omega)))) ?_)
    rintro _ w150 ⟨rfl, hS151⟩
    refine sty rfl rfl (ov_not (a := (bAddB (max 0 (min 256 256)) (sortE (rotL W9 q31 k)) (W9.getD (((W9.length - 1) - k + q31) % W9.length) default))) rfl ?_)
    have hkn152 : (!(bAddB (max 0 (min 256 256)) (sortE (rotL W9 q31 k)) (W9.getD (((W9.length - 1) - k + q31) % W9.length) default))) = false := (by rw [htb9.1]; rfl)
    rw [hkn152]
    refine st (ov_pick_f (v := .bool false) rfl rfl ?_)
    refine st_nil ?_
    refine WP_cond_f rfl ?_
    refine WP_skip ?_
    refine WP_region0 (by kernel_rfl) (fun _ => ?_)
    refine st (ov_move (v := .int .i64 ((k : Nat) : Int)) rfl ?_)
    have hr153 : InR ((k + 1 : Nat) : Int) := by first | omega | (simp only [lens]; omega)
    refine st (ov_add (r := ((k + 1 : Nat) : Int)) (k := .i64) (a := ((k : Nat) : Int)) (b := 1) rfl rfl (by rw [show (((k : Nat) : Int) + 1 : Int) = ((k + 1 : Nat) : Int) by first | omega | (simp only [lens]; omega)]; exact wrap_in hr153) ?_)
    refine st (ov_assign (v := .int .i64 ((k + 1 : Nat) : Int)) rfl ?_)
    refine st_nil ?_
    have hS154 : Sep G W ((RowE (α := Ev) (shr G W) 36 vo W9) :: (BufO b18 (max 0 (min 256 256)) (bAddL (max 0 (min 256 256)) (sortE (rotL W9 q31 k)) (W9.getD (((W9.length - 1) - k + q31) % W9.length) default))) :: (BufO b15 (max 0 (min 256 256)) (bAddL (max 0 (min 256 256)) (sortE (W9.take k)) (W9.getD k default))) :: (SetO b12 (1 + q6) ([] : List Ev)) :: Rs) w150 := hS151.sel 4 [2, 0, 1, 3] (Nat.le_add_left _ _) rfl rfl
    have hL155 : (sortE (W9.take (k + 1))) = (bAddL (max 0 (min 256 256)) (sortE (W9.take k)) (W9.getD k default)) := hta9.2.symm
    rw [← hL155] at hS154
    have hL156 : (sortE (rotL W9 q31 (k + 1))) = (bAddL (max 0 (min 256 256)) (sortE (rotL W9 q31 k)) (W9.getD (((W9.length - 1) - k + q31) % W9.length) default)) := htb9.2.symm
    rw [← hL156] at hS154
    exact ⟨_, by omega, k + 1, _, rfl, setAll_self ⟨rfl, rfl, rfl, rfl, rfl, rfl, trivial⟩, by omega, hS154⟩
  ·skip
   have hc27r := hc27
   have hc27 := of_decide_eq_true hc27
   refine WP_cond_t rfl ?_
   refine WP_skip ?_
   refine WP_seq ?_
   refine WP_block ?_
   refine WP_seq ?_
   refine WP_region0 (by kernel_rfl) (fun _ => ?_)
   refine st (ov_move (v := vl) rfl ?_)
   refine st (ov_move (v := .int .i64 ((k : Nat) : Int)) rfl ?_)
   refine st (ov_call (f := 16) (vals := [vl, .int .i64 ((k : Nat) : Int)]) (cap := []) (show _ = (.func (.func 16) #[] #[] : Value) from rfl) rfl Try.call16 (D_before (l := l) (vl := vl) (i := k) hl (by first | omega | (refine ⟨?_, ?_⟩ <;> omega)) hS25) ?_)
   rintro _ w157 ⟨rfl, hS158⟩
   refine st (ov_not (a := (befE l k)) rfl ?_)
   refine st_nil ?_
   cases hc159 : !(befE l k)
   ·skip
    have hc159r := hc159
    try simp only [bools] at hc159
    refine WP_cond_f rfl ?_
    refine WP_skip ?_
    refine WP_region0 (by kernel_rfl) (fun _ => ?_)
    refine st (ov_move (v := .int .i64 ((k : Nat) : Int)) rfl ?_)
    have hr160 : InR ((k + 1 : Nat) : Int) := by first | omega | (simp only [lens]; omega)
    refine st (ov_add (r := ((k + 1 : Nat) : Int)) (k := .i64) (a := ((k : Nat) : Int)) (b := 1) rfl rfl (by rw [show (((k : Nat) : Int) + 1 : Int) = ((k + 1 : Nat) : Int) by first | omega | (simp only [lens]; omega)]; exact wrap_in hr160) ?_)
    refine st (ov_assign (v := .int .i64 ((k + 1 : Nat) : Int)) rfl ?_)
    refine st_nil ?_
    have hL161 : (ownL l (k + 1)) = (ownL l k) := (own_yes (by simpa using hc159r))
    rw [← hL161] at hS158
    exact ⟨_, by omega, k + 1, vo, _, rfl, setAll_self ⟨rfl, rfl, rfl, rfl, rfl, rfl, rfl, rfl, trivial⟩, by omega, hS158⟩
   ·skip
    have hc159r := hc159
    try simp only [bools] at hc159
    refine WP_cond_t rfl ?_
    refine WP_region0 (by kernel_rfl) (fun _ => ?_)
    refine st (ov_move (v := vo) rfl ?_)
    refine st (ov_move (v := vl) rfl ?_)
    refine st (ov_move (v := .int .i64 ((k : Nat) : Int)) rfl ?_)
    have hi162 : k < l.length := (by first | omega | (simp only [lens]; omega))
    refine st (ov_indexAddrN (k := 10) (i := k) Try.underlying22 Try.sizeOf36 rfl hl.sl rfl hi162 ?_)
    have hi164 : k < l.length := (by first | omega | (simp only [lens]; omega))
    obtain ⟨hce163, hde163_0, hoke163⟩ := hl.ev hi164
    rw [← getD_at default hi164] at hce163 hde163_0 hoke163
    have hsm165 : ((l.getD k default).deps).length * 8 ≤ 140737488355328 := hde163_0.small
    have hcw166 := hS158.cells hce163 (hl.foot (ne_of_lt hi164))
    refine st (ov_loadk (k := 10) Try.isAgg36 Try.sizeOf36 rfl rfl hcw166 ?_)
    refine st (ov_buildSlice (k := 10) (parts' := [(0, .agg ((l.getD k default).cells (cellV W (sb vl) (so vl + k * 10 + 3))).toArray)]) (c := ((l.getD k default).cells (cellV W (sb vl) (so vl + k * 10 + 3))).toArray) Try.underlying22 Try.sizeOf36 Try.zeroValue36 (by decide) rfl (by kernel_rfl) ?_)
    intro w169 b168 hn167
    have hS170 : Sep G W ((Blk b168 ((l.getD k default).cells (cellV W (sb vl) (so vl + k * 10 + 3))).toArray 36) :: (RowE (α := Ev) (shr G W) 36 vo (ownL l k)) :: (BufO b18 (max 0 (min 256 256)) ([] : List Ev)) :: (BufO b15 (max 0 (min 256 256)) ([] : List Ev)) :: (SetO b12 (1 + q6) ([] : List Ev)) :: Rs) w169 := hS158.new hn167
    have hbk174 := hS170.blk (i := 0) rfl
    have hS175 : Sep G W ((RowE (α := Ev) (shr G W) 36 vo (ownL l k)) :: (BufO b18 (max 0 (min 256 256)) ([] : List Ev)) :: (BufO b15 (max 0 (min 256 256)) ([] : List Ev)) :: (SetO b12 (1 + q6) ([] : List Ev)) :: Rs) w169 := hS170.sel 5 [1, 2, 3, 4] (Nat.le_add_left _ _) rfl rfl
    have hS176 : Sep G W ((RowE (α := Ev) (shr G W) 36 vo (ownL l k)) :: Emp :: (BufO b18 (max 0 (min 256 256)) ([] : List Ev)) :: (BufO b15 (max 0 (min 256 256)) ([] : List Ev)) :: (SetO b12 (1 + q6) ([] : List Ev)) :: Rs) w169 := hS175.emp1
    refine st (ov_append1S (src := (shr G W)) (bytes := 96) (x1 := (l.getD k default)) hS176 el22 rfl rfl hbk174 (fun _ _ _ => (show _ from ⟨_, rfl, hde163_0, hoke163⟩)) (by first | omega | (simp only [List.length_append, List.length_cons, List.length_nil, List.length_take, List.length_drop]; omega)) rfl ?_)
    intro v172 w171 hS173
    have hr177 := hS173.row (i := 0) rfl
    have hr177s : ((ownL l k) ++ [(l.getD k default)]).length * 96 ≤ 140737488355328 := hr177.2
    refine st (ov_assign (v := v172) rfl ?_)
    refine st_nil ?_
    refine WP_region0 (by kernel_rfl) (fun _ => ?_)
    refine st (ov_move (v := .int .i64 ((k : Nat) : Int)) rfl ?_)
    have hr178 : InR ((k + 1 : Nat) : Int) := by first | omega | (simp only [lens]; omega)
    refine st (ov_add (r := ((k + 1 : Nat) : Int)) (k := .i64) (a := ((k : Nat) : Int)) (b := 1) rfl rfl (by rw [show (((k : Nat) : Int) + 1 : Int) = ((k + 1 : Nat) : Int) by first | omega | (simp only [lens]; omega)]; exact wrap_in hr178) ?_)
    refine st (ov_assign (v := .int .i64 ((k + 1 : Nat) : Int)) rfl ?_)
    refine st_nil ?_
    have hL179 : (ownL l (k + 1)) = (ownL l k) ++ [(l.getD k default)] := (own_no (by simpa using hc159r))
    rw [← hL179] at hS173
    exact ⟨_, by omega, k + 1, v172, _, rfl, setAll_self ⟨rfl, rfl, rfl, rfl, rfl, rfl, rfl, rfl, trivial⟩, by omega, hS173⟩
 ·skip
  have hc5r := hc5
  refine WP_cond_t rfl ?_
  refine WP_seq ?_
  refine WP_region0 (by kernel_rfl) (fun _ => ?_)
  refine st (ov_call (f := 9) (vals := []) (cap := []) (show _ = (.func (.func 9) #[] #[] : Value) from rfl) rfl Try.call9 (D_known25  hS4) ?_)
  rintro _ w180 ⟨rfl, hS181⟩
  refine st (ov_assign (v := .bool true) rfl ?_)
  refine st_nil ?_
  refine WP_ret ?_
  refine fin1 Try.results4 (show _ = (.bool true : Value) from rfl) ?_
  refine ⟨rfl, hS181⟩

end Go.Proofs.Ytmiihhbeclhaoaa
end

section
/- Steps of the proofs of this seat: part F4. -/
set_option linter.unusedSimpArgs false
set_option linter.unusedVariables false
set_option maxRecDepth 8000
set_option maxHeartbeats 4000000
namespace Go.Proofs.Ytmiihhbeclhaoaa
open Go.Proofs Go.RowKit

theorem C_BufferTurned {W : World} {z0 : Int} (hz0 : InR z0) {vz1 : Value} {z1 : List Ev} (hz1 : RdS W (inHeap W) vz1 z1) {z2 : Int} (hz2 : InR z2) : Ret Try.prog 4 [.int .i64 z0, vz1, .int .i64 z2] W (fun r w' => r = .bool true ∧ Ext W w') :=
  Ret.mono (D_BufferTurned hz0 hz1 hz2 (Sep.start W)) (fun v w' ⟨h1, h2⟩ => ⟨h1, h2.fin⟩)
end Go.Proofs.Ytmiihhbeclhaoaa
end
