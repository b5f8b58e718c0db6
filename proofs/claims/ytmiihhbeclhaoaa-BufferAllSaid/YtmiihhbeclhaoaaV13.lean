/- Texts of this claim, part 13. -/
import Derived.Test.YtmiihhbeclhaoaaV12
set_option linter.unusedSimpArgs false
set_option linter.unusedVariables false
set_option linter.unusedSectionVars false
section
/- Steps of the proofs of this seat: part E1. -/
set_option linter.unusedSimpArgs false
set_option linter.unusedVariables false
set_option maxRecDepth 8000
set_option maxHeartbeats 4000000
namespace Go.Proofs.Ytmiihhbeclhaoaa
open Go.Proofs Go.RowKit

def evO : Ev := ⟨0, 1, 1, [0, 0], 0, 0, 0, 1, 1, 0⟩
def evT : Ev := ⟨1, 1, 2, [1, 0], 0, 0, 0, 1, 1, 0⟩
theorem evO_ok : evO.Ok := by constructor <;> decide
theorem evT_ok : evT.Ok := by constructor <;> decide
theorem kb1 : bAddL (max 0 (min 5 256)) [] evT = [evT] := by decide +kernel
theorem kb2 : bAddL (max 0 (min 5 256)) [evT] evT = [evT] := by decide +kernel
theorem kb3 : rdyO 2 [] ([evT].filter fun x => !hadE [] x) = [] := by decide +kernel
theorem kb4 : rdyB 2 [] ([evT].filter fun x => !hadE [] x) = [evT] := by decide +kernel
theorem kb5 : bAddL (max 0 (min 5 256)) [evT] evO = [evO, evT] := by decide +kernel
theorem kb6 : rdyO 2 [] ([evO, evT].filter fun x => !hadE [] x) = [evO, evT] := by decide +kernel
theorem kb7 : rdyB 2 [] ([evO, evT].filter fun x => !hadE [] x) = [] := by decide +kernel
theorem srt1 {e : Ev} : Srt [e] := List.pairwise_singleton _ _
def befE (l : List Ev) (i : Nat) : Bool := (l.take i).any fun x => sameId x (l.getD i default)
theorem bef_yes {l : List Ev} {i k : Nat} (hk : k < i) (hi : i < l.length) (h : sameId (l.getD k default) (l.getD i default) = true) : befE l i = true := by
  unfold befE
  rw [List.any_eq_true]
  refine ⟨l.getD k default, ?_, h⟩
  rw [getD_at _ (by omega)]
  exact List.mem_take_iff_getElem.2 ⟨k, by omega, rfl⟩
theorem bef_no {l : List Ev} {i : Nat} (hi : i < l.length) (h : ∀ k, k < i → sameId (l.getD k default) (l.getD i default) = false) : befE l i = false := by
  unfold befE
  rw [List.any_eq_false]
  intro x hx
  obtain ⟨k, hk, rfl⟩ := List.mem_take_iff_getElem.1 hx
  have := h k (by omega)
  rw [getD_at _ (by omega : k < l.length)] at this
  rw [this]; decide
theorem D_one {G : Nat → Prop} {W w : World} {Rs : List HP}  (hS0 : Sep G W Rs w) : Ret Try.prog 34 [] w (fun r w' => ∃ (v : Value), r = (.agg (evO.cells v).toArray : Value) ∧ Sep G W ((RowE (α := Int) own 3 v evO.deps) :: Rs) w') := by
 refine Calls_of_WP (args := []) Try.func34 rfl rfl ?_
 refine WP_seq ?_
 refine WP_region0 (by kernel_rfl) (fun _ => ?_)
 refine st (ov_alloc Try.zeroValue36 ?_)
 intro w3 b2 hn1
 have hS4 : Sep G W ((Blk b2 #[.int .i64 (0), .int .i64 (0), .int .i64 (0), (.slice none 0 0), .int .i64 (0), .int .i64 (0), .int .i64 (0), .int .i64 (0), .int .i64 (0), .int .i64 (0)] 36) :: Rs) w3 := hS0.new hn1
 refine st_nil ?_
 refine WP_seq ?_
 refine WP_region0 (by kernel_rfl) (fun _ => ?_)
 refine st (ov_build (parts' := [(0, .int .i64 (0)), (1, .int .i64 (1))]) (v := .agg #[.int .i64 (0), .int .i64 (1)]) rfl (by simp [Instr.build, Instr.fill, go_sem, Ev.cells]) ?_)
 refine st (ov_buildSlice (k := 1) (parts' := [(0, .int .i64 (0)), (1, .int .i64 (0))]) (c := #[.int .i64 (0), .int .i64 (0)]) Try.underlying34 Try.sizeOf3 Try.zeroValue3 (by decide) rfl (by kernel_rfl) ?_)
 intro w7 b6 hn5
 have hS8 : Sep G W ((Blk b6 #[.int .i64 (0), .int .i64 (0)] 3) :: (Blk b2 #[.int .i64 (0), .int .i64 (0), .int .i64 (0), (.slice none 0 0), .int .i64 (0), .int .i64 (0), .int .i64 (0), .int .i64 (0), .int .i64 (0), .int .i64 (0)] 36) :: Rs) w7 := hS4.new hn5
 have hS9 : Sep G W ((RowE (α := Int) own 3 (.slice (some ⟨b6, 0, none⟩) 2 2) [0, 0]) :: (Blk b2 #[.int .i64 (0), .int .i64 (0), .int .i64 (0), (.slice none 0 0), .int .i64 (0), .int .i64 (0), .int .i64 (0), .int .i64 (0), .int .i64 (0), .int .i64 (0)] 36) :: Rs) w7 := Sep.blkRow (src := own) (l := [0, 0]) (css := [[.int .i64 (0)], [.int .i64 (0)]]) hS8 rfl ⟨fun _ _ => ⟨rfl, (by decide)⟩, fun _ _ => ⟨rfl, (by decide)⟩, trivial⟩ (by first | decide | (simp only [List.length_cons, List.length_nil]; decide))
 have hr10 := hS9.row (i := 0) rfl
 have hr10s : [0, 0].length * 8 ≤ 140737488355328 := hr10.2
 have ok11 : Ev.Ok (⟨0, 1, 1, [0, 0], 0, 0, 0, 1, 1, 0⟩ : Ev) := ⟨(show InR (0) from (by decide)), (show InR (1) from (by decide)), (show InR (1) from (by decide)), (show InR (0) from (by decide)), (show InR (0) from (by decide)), (show InR (0) from (by decide)), (show InR (1) from (by decide)), (show InR (1) from (by decide)), (show InR (0) from (by decide))⟩
 refine st (ov_build (parts' := [(0, .agg #[.int .i64 (0), .int .i64 (1)]), (1, .int .i64 (1)), (2, (.slice (some ⟨b6, 0, none⟩) 2 2)), (6, .int .i64 (1)), (7, .int .i64 (1))]) (v := .agg ((⟨0, 1, 1, [0, 0], 0, 0, 0, 1, 1, 0⟩ : Ev).cells (.slice (some ⟨b6, 0, none⟩) 2 2)).toArray) rfl (by simp [Instr.build, Instr.fill, go_sem, Ev.cells]) ?_)
 refine stn (ov_store (v := .agg ((⟨0, 1, 1, [0, 0], 0, 0, 0, 1, 1, 0⟩ : Ev).cells (.slice (some ⟨b6, 0, none⟩) 2 2)).toArray) (c' := ((⟨0, 1, 1, [0, 0], 0, 0, 0, 1, 1, 0⟩ : Ev).cells (.slice (some ⟨b6, 0, none⟩) 2 2)).toArray) Try.sizeOf36 rfl rfl (hS9.blk (i := 1) rfl) (all1 ⟨rfl, rfl, rfl, rfl, rfl, rfl, rfl, rfl, rfl, rfl, trivial⟩) (Nat.le_of_ble_eq_true rfl) rfl ?_)
 intro w12 hp13
 have hS14 : Sep G W ((RowE (α := Int) own 3 (.slice (some ⟨b6, 0, none⟩) 2 2) [0, 0]) :: (Blk b2 ((⟨0, 1, 1, [0, 0], 0, 0, 0, 1, 1, 0⟩ : Ev).cells (.slice (some ⟨b6, 0, none⟩) 2 2)).toArray 36) :: Rs) w12 := hS9.put (i := 1) rfl hp13
 refine st_nil ?_
 refine WP_ret ?_
 refine finc (b := b2) Try.results34 Try.isAgg36 Try.sizeOf36 rfl rfl (CellsAt.all (hS14.blk (i := 1) rfl)) ?_
 have hS15 : Sep G W ((RowE (α := Int) own 3 (.slice (some ⟨b6, 0, none⟩) 2 2) [0, 0]) :: Rs) w12 := hS14.sel 2 [0] (Nat.le_add_left _ _) rfl rfl
 refine ⟨(.slice (some ⟨b6, 0, none⟩) 2 2), rfl, hS15⟩

theorem D_two {G : Nat → Prop} {W w : World} {Rs : List HP}  (hS0 : Sep G W Rs w) : Ret Try.prog 33 [] w (fun r w' => ∃ (v : Value), r = (.agg (evT.cells v).toArray : Value) ∧ Sep G W ((RowE (α := Int) own 3 v evT.deps) :: Rs) w') := by
 refine Calls_of_WP (args := []) Try.func33 rfl rfl ?_
 refine WP_seq ?_
 refine WP_region0 (by kernel_rfl) (fun _ => ?_)
 refine st (ov_alloc Try.zeroValue36 ?_)
 intro w3 b2 hn1
 have hS4 : Sep G W ((Blk b2 #[.int .i64 (0), .int .i64 (0), .int .i64 (0), (.slice none 0 0), .int .i64 (0), .int .i64 (0), .int .i64 (0), .int .i64 (0), .int .i64 (0), .int .i64 (0)] 36) :: Rs) w3 := hS0.new hn1
 refine st_nil ?_
 refine WP_seq ?_
 refine WP_region0 (by kernel_rfl) (fun _ => ?_)
 refine st (ov_build (parts' := [(0, .int .i64 (1)), (1, .int .i64 (1))]) (v := .agg #[.int .i64 (1), .int .i64 (1)]) rfl (by simp [Instr.build, Instr.fill, go_sem, Ev.cells]) ?_)
 refine st (ov_buildSlice (k := 1) (parts' := [(0, .int .i64 (1)), (1, .int .i64 (0))]) (c := #[.int .i64 (1), .int .i64 (0)]) Try.underlying34 Try.sizeOf3 Try.zeroValue3 (by decide) rfl (by kernel_rfl) ?_)
 intro w7 b6 hn5
 have hS8 : Sep G W ((Blk b6 #[.int .i64 (1), .int .i64 (0)] 3) :: (Blk b2 #[.int .i64 (0), .int .i64 (0), .int .i64 (0), (.slice none 0 0), .int .i64 (0), .int .i64 (0), .int .i64 (0), .int .i64 (0), .int .i64 (0), .int .i64 (0)] 36) :: Rs) w7 := hS4.new hn5
 have hS9 : Sep G W ((RowE (α := Int) own 3 (.slice (some ⟨b6, 0, none⟩) 2 2) [1, 0]) :: (Blk b2 #[.int .i64 (0), .int .i64 (0), .int .i64 (0), (.slice none 0 0), .int .i64 (0), .int .i64 (0), .int .i64 (0), .int .i64 (0), .int .i64 (0), .int .i64 (0)] 36) :: Rs) w7 := Sep.blkRow (src := own) (l := [1, 0]) (css := [[.int .i64 (1)], [.int .i64 (0)]]) hS8 rfl ⟨fun _ _ => ⟨rfl, (by decide)⟩, fun _ _ => ⟨rfl, (by decide)⟩, trivial⟩ (by first | decide | (simp only [List.length_cons, List.length_nil]; decide))
 have hr10 := hS9.row (i := 0) rfl
 have hr10s : [1, 0].length * 8 ≤ 140737488355328 := hr10.2
 have ok11 : Ev.Ok (⟨1, 1, 2, [1, 0], 0, 0, 0, 1, 1, 0⟩ : Ev) := ⟨(show InR (1) from (by decide)), (show InR (1) from (by decide)), (show InR (2) from (by decide)), (show InR (0) from (by decide)), (show InR (0) from (by decide)), (show InR (0) from (by decide)), (show InR (1) from (by decide)), (show InR (1) from (by decide)), (show InR (0) from (by decide))⟩
 refine st (ov_build (parts' := [(0, .agg #[.int .i64 (1), .int .i64 (1)]), (1, .int .i64 (2)), (2, (.slice (some ⟨b6, 0, none⟩) 2 2)), (6, .int .i64 (1)), (7, .int .i64 (1))]) (v := .agg ((⟨1, 1, 2, [1, 0], 0, 0, 0, 1, 1, 0⟩ : Ev).cells (.slice (some ⟨b6, 0, none⟩) 2 2)).toArray) rfl (by simp [Instr.build, Instr.fill, go_sem, Ev.cells]) ?_)
 refine stn (ov_store (v := .agg ((⟨1, 1, 2, [1, 0], 0, 0, 0, 1, 1, 0⟩ : Ev).cells (.slice (some ⟨b6, 0, none⟩) 2 2)).toArray) (c' := ((⟨1, 1, 2, [1, 0], 0, 0, 0, 1, 1, 0⟩ : Ev).cells (.slice (some ⟨b6, 0, none⟩) 2 2)).toArray) Try.sizeOf36 rfl rfl (hS9.blk (i := 1) rfl) (all1 ⟨rfl, rfl, rfl, rfl, rfl, rfl, rfl, rfl, rfl, rfl, trivial⟩) (Nat.le_of_ble_eq_true rfl) rfl ?_)
 intro w12 hp13
 have hS14 : Sep G W ((RowE (α := Int) own 3 (.slice (some ⟨b6, 0, none⟩) 2 2) [1, 0]) :: (Blk b2 ((⟨1, 1, 2, [1, 0], 0, 0, 0, 1, 1, 0⟩ : Ev).cells (.slice (some ⟨b6, 0, none⟩) 2 2)).toArray 36) :: Rs) w12 := hS9.put (i := 1) rfl hp13
 refine st_nil ?_
 refine WP_ret ?_
 refine finc (b := b2) Try.results33 Try.isAgg36 Try.sizeOf36 rfl rfl (CellsAt.all (hS14.blk (i := 1) rfl)) ?_
 have hS15 : Sep G W ((RowE (α := Int) own 3 (.slice (some ⟨b6, 0, none⟩) 2 2) [1, 0]) :: Rs) w12 := hS14.sel 2 [0] (Nat.le_add_left _ _) rfl rfl
 refine ⟨(.slice (some ⟨b6, 0, none⟩) 2 2), rfl, hS15⟩

theorem D_before {G : Nat → Prop} {W w : World} {Rs : List HP} {vl : Value} {l : List Ev} (hl : RdS W G vl l) {i : Nat} (hi : i < l.length) (hS0 : Sep G W Rs w) : Ret Try.prog 16 [vl, .int .i64 ((i : Nat) : Int)] w (fun r w' => r = (.bool ((befE l i)) : Value) ∧ Sep G W Rs w') := by
 have hls : l.length * 96 ≤ 140737488355328 := hl.small
 refine Calls_of_WP (args := [vl, .int .i64 ((i : Nat) : Int)]) Try.func16 rfl rfl ?_
 refine WP_seq ?_
 refine WP_region0 (by kernel_rfl) (fun _ => ?_)
 refine st (ov_assign (v := .bool false) rfl ?_)
 refine st_nil ?_
 refine WP_seq ?_
 refine WP_seq ?_
 refine WP_region0 (by kernel_rfl) (fun _ => ?_)
 refine st (ov_assign (v := .int .i64 (0)) rfl ?_)
 refine st_nil ?_
 refine WP_block ?_
 refine WP_loop (fun mq σ wq => ∃ (k : Nat) (ρ : Env), mq = i - k ∧ σ = setAll ρ [(0, vl), (1, .int .i64 ((i : Nat) : Int)), (5, .int .i64 ((k : Nat) : Int))] ∧ (k ≤ i) ∧ (∀ j, j < k → sameId (l.getD j default) (l.getD i default) = false) ∧ Sep G W Rs wq) ⟨0, _, rfl, setAll_self ⟨rfl, rfl, rfl, trivial⟩, Nat.zero_le _, (fun j h => absurd h (Nat.not_lt_zero j)), hS0⟩ ?_
 rintro m2 σ3 w1 ⟨k, ρl1, rfl, rfl, hkk, hm, hS4⟩
 refine WP_seq ?_
 refine WP_seq ?_
 refine WP_region0 (by kernel_rfl) (fun _ => ?_)
 refine st (ov_move (v := .int .i64 ((k : Nat) : Int)) rfl ?_)
 refine st (ov_move (v := .int .i64 ((i : Nat) : Int)) rfl ?_)
 refine st (ov_lss (k := .i64) (a := ((k : Nat) : Int)) (b := ((i : Nat) : Int)) rfl rfl ?_)
 refine st_nil ?_
 cases hc5 : decide (((k : Nat) : Int) < ((i : Nat) : Int))
 ·skip
  have hc5r := hc5
  have hc5 := of_decide_eq_false hc5
  refine WP_cond_f rfl ?_
  refine WP_exit ?_
  refine blk_exit ?_
  refine WP_seq ?_
  refine WP_region0 (by kernel_rfl) (fun _ => ?_)
  refine st (ov_assign (v := .bool false) rfl ?_)
  refine st_nil ?_
  refine WP_ret ?_
  refine fin1 Try.results16 (show _ = (.bool false : Value) from rfl) ?_
  refine ⟨?_, hS4⟩
  rw [bef_no hi (fun j hj => hm j (by omega))]
 ·skip
  have hc5r := hc5
  have hc5 := of_decide_eq_true hc5
  refine WP_cond_t rfl ?_
  refine WP_skip ?_
  refine WP_seq ?_
  refine WP_block ?_
  refine WP_seq ?_
  refine WP_draw4 (WF [fun vals wq => Sep G W Rs wq]) (AF [Vl 0 (vl), Vl 1 (.int .i64 ((k : Nat) : Int)), Vl 2 (.pointer (some ⟨sb vl, so vl + k * 10, none⟩)), Vl 3 (.pointer (some ⟨sb vl, so vl + k * 10, none⟩)), Vl 4 (.agg #[.int .i64 ((l.getD k default).origin), .int .i64 ((l.getD k default).seq)]), Vl 5 (vl), Vl 6 (.int .i64 ((i : Nat) : Int)), Vl 7 (.pointer (some ⟨sb vl, so vl + i * 10, none⟩)), Vl 8 (.pointer (some ⟨sb vl, so vl + i * 10, none⟩)), Vl 9 (.agg #[.int .i64 ((l.getD i default).origin), .int .i64 ((l.getD i default).seq)]), Vl 10 (.bool (decide ((l.getD k default).origin = (l.getD i default).origin ∧ (l.getD k default).seq = (l.getD i default).seq)))]) [[], [], [0, 1], [0, 1, 2], [0, 1, 2, 3], [], [], [5, 6], [5, 6, 7], [5, 6, 7, 8], [0, 1, 2, 3, 4, 5, 6, 7, 8, 9]] [] [(0, 0), (0, 0), (0, 0), (0, 0), (0, 0), (0, 0), (0, 0), (0, 0), (0, 0), (0, 0), (0, 0)] (by kernel_rfl) (by kernel_rfl) (by kernel_rfl) rfl (by kernel_rfl) (by kernel_rfl) (fun _ h1 h2 h3 h4 _ => hS4.same h1 h2 h3 h4) ?_ (AF_loc ⟨dA, dA, dA, dA, dA, dA, dA, dA, dA, dA, dA, trivial⟩) ⟨?_, ?_, ?_, ?_, ?_, ?_, ?_, ?_, ?_, ?_, ?_, trivial⟩ ?_
  ·intro k vals vals' w hv h
   match k, h with
   | 0, h => exact h
   | _ + 1, _ => trivial
  ·intro k97 vals w98 h101 h102 hW100 hA99
   refine obl rfl ?_
   exact ov_move (v := vl) rfl (fun vals' hv _ => ⟨rfl, hv⟩)
  ·intro k103 vals w104 h107 h108 hW106 hA105
   refine obl rfl ?_
   exact ov_move (v := .int .i64 ((k : Nat) : Int)) rfl (fun vals' hv _ => ⟨rfl, hv⟩)
  ·intro k109 vals w110 h113 h114 hW112 hA111
   obtain rfl : k109 = 0 := Nat.le_antisymm h114 h113
   have hS115 : Sep G W Rs w110 := hW112
   have e116 := hA111 0 (by decide)
   have e117 := hA111 1 (by decide)
   refine obl rfl ?_
   have hi118 : k < l.length := (by first | omega | (simp only [lens]; omega))
   exact ov_indexAddrN (k := 10) (i := k) Try.underlying22 Try.sizeOf36 e116 hl.sl e117 hi118 (fun vals' hv _ => ⟨rfl, hv⟩)
  ·intro k119 vals w120 h123 h124 hW122 hA121
   have e125 := hA121 2 (by decide)
   refine obl rfl ?_
   exact fd36_0 e125 (fun vals' hv _ => ⟨rfl, hv⟩)
  ·intro k126 vals w127 h130 h131 hW129 hA128
   obtain rfl : k126 = 0 := Nat.le_antisymm h131 h130
   have hS132 : Sep G W Rs w127 := hW129
   have e133 := hA128 3 (by decide)
   refine obl rfl ?_
   have hi135 : k < l.length := (by first | omega | (simp only [lens]; omega))
   obtain ⟨hce134, hde134_0, hoke134⟩ := hl.ev hi135
   rw [← getD_at default hi135] at hce134 hde134_0 hoke134
   have hsm136 : ((l.getD k default).deps).length * 8 ≤ 140737488355328 := hde134_0.small
   have hcw137 := hS132.cells hce134 (hl.foot (ne_of_lt hi135))
   exact ov_loadk (k := 2) (cs := [.int .i64 ((l.getD k default).origin), .int .i64 ((l.getD k default).seq)]) Try.isAgg33 Try.sizeOf33 rfl e133 (CellsAt.sub hcw137 0 (cs2 := [.int .i64 ((l.getD k default).origin), .int .i64 ((l.getD k default).seq)]) rfl) (fun vals' hv _ => ⟨rfl, hv⟩)
  ·intro k138 vals w139 h142 h143 hW141 hA140
   refine obl rfl ?_
   exact ov_move (v := vl) rfl (fun vals' hv _ => ⟨rfl, hv⟩)
  ·intro k144 vals w145 h148 h149 hW147 hA146
   refine obl rfl ?_
   exact ov_move (v := .int .i64 ((i : Nat) : Int)) rfl (fun vals' hv _ => ⟨rfl, hv⟩)
  ·intro k150 vals w151 h154 h155 hW153 hA152
   obtain rfl : k150 = 0 := Nat.le_antisymm h155 h154
   have hS156 : Sep G W Rs w151 := hW153
   have e157 := hA152 5 (by decide)
   have e158 := hA152 6 (by decide)
   refine obl rfl ?_
   have hi159 : i < l.length := (by first | omega | (simp only [lens]; omega))
   exact ov_indexAddrN (k := 10) (i := i) Try.underlying22 Try.sizeOf36 e157 hl.sl e158 hi159 (fun vals' hv _ => ⟨rfl, hv⟩)
  ·intro k160 vals w161 h164 h165 hW163 hA162
   have e166 := hA162 7 (by decide)
   refine obl rfl ?_
   exact fd36_0 e166 (fun vals' hv _ => ⟨rfl, hv⟩)
  ·intro k167 vals w168 h171 h172 hW170 hA169
   obtain rfl : k167 = 0 := Nat.le_antisymm h172 h171
   have hS173 : Sep G W Rs w168 := hW170
   have e174 := hA169 8 (by decide)
   refine obl rfl ?_
   have hi176 : i < l.length := (by first | omega | (simp only [lens]; omega))
   obtain ⟨hce175, hde175_0, hoke175⟩ := hl.ev hi176
   rw [← getD_at default hi176] at hce175 hde175_0 hoke175
   have hsm177 : ((l.getD i default).deps).length * 8 ≤ 140737488355328 := hde175_0.small
   have hcw178 := hS173.cells hce175 (hl.foot (ne_of_lt hi176))
   exact ov_loadk (k := 2) (cs := [.int .i64 ((l.getD i default).origin), .int .i64 ((l.getD i default).seq)]) Try.isAgg33 Try.sizeOf33 rfl e174 (CellsAt.sub hcw178 0 (cs2 := [.int .i64 ((l.getD i default).origin), .int .i64 ((l.getD i default).seq)]) rfl) (fun vals' hv _ => ⟨rfl, hv⟩)
  ·intro k179 vals w180 h183 h184 hW182 hA181
   obtain rfl : k179 = 0 := Nat.le_antisymm h184 h183
   have hS185 : Sep G W Rs w180 := hW182
   have e186 := hA181 4 (by decide)
   have e187 := hA181 9 (by decide)
   refine obl rfl ?_
   exact ov_eqlS (e := decide ((l.getD k default).origin = (l.getD i default).origin ∧ (l.getD k default).seq = (l.getD i default).seq)) (xs := #[.int .i64 ((l.getD k default).origin), .int .i64 ((l.getD k default).seq)]) (ys := #[.int .i64 ((l.getD i default).origin), .int .i64 ((l.getD i default).seq)]) eqS33 e186 e187 (fun vals' hv _ => ⟨rfl, hv⟩)
  intro vals w188 hW189 hA190
  have hS191 : Sep G W Rs w188 := hW189
  have e192 := hA190 10 (by decide)
  refine st_env (kv := [(0, vl), (1, .int .i64 ((i : Nat) : Int)), (5, .int .i64 ((k : Nat) : Int)), (6, .int .i64 ((k : Nat) : Int)), (7, .int .i64 ((i : Nat) : Int)), (8, .bool true), (21, .bool (decide ((l.getD k default).origin = (l.getD i default).origin ∧ (l.getD k default).seq = (l.getD i default).seq)))]) ⟨rfl, rfl, rfl, rfl, rfl, rfl, (by exact e192), trivial⟩ (fun ρw188 => ?_)
  refine st_nil ?_
  cases hc193 : decide ((l.getD k default).origin = (l.getD i default).origin ∧ (l.getD k default).seq = (l.getD i default).seq)
  ·skip
   have hc193r := hc193
   have hc193 := of_decide_eq_false hc193
   refine WP_cond_f rfl ?_
   refine WP_skip ?_
   refine WP_region0 (by kernel_rfl) (fun _ => ?_)
   refine st (ov_move (v := .int .i64 ((k : Nat) : Int)) rfl ?_)
   have hr194 : InR ((k + 1 : Nat) : Int) := by first | omega | (simp only [lens]; omega)
   refine st (ov_add (r := ((k + 1 : Nat) : Int)) (k := .i64) (a := ((k : Nat) : Int)) (b := 1) rfl rfl (by rw [show (((k : Nat) : Int) + 1 : Int) = ((k + 1 : Nat) : Int) by first | omega | (simp only [lens]; omega)]; exact wrap_in hr194) ?_)
   refine st (ov_assign (v := .int .i64 ((k + 1 : Nat) : Int)) rfl ?_)
   refine st_nil ?_
   exact ⟨_, by omega, k + 1, _, rfl, setAll_self ⟨rfl, rfl, rfl, trivial⟩, by omega, (all_step hm hc193r), hS191⟩
  ·skip
   have hc193r := hc193
   have hc193 := of_decide_eq_true hc193
   refine WP_cond_t rfl ?_
   refine WP_seq ?_
   refine WP_region0 (by kernel_rfl) (fun _ => ?_)
   refine st (ov_assign (v := .bool true) rfl ?_)
   refine st_nil ?_
   refine WP_ret ?_
   refine fin1 Try.results16 (show _ = (.bool true : Value) from rfl) ?_
   refine ⟨?_, hS191⟩
   rw [bef_yes (by omega) (by omega) hc193r]

theorem D_known25 {G : Nat → Prop} {W w : World} {Rs : List HP}  (hS0 : Sep G W Rs w) : Ret Try.prog 9 [] w (fun r w' => r = (.bool true : Value) ∧ Sep G W Rs w') := by
 refine Calls_of_WP (args := []) Try.func9 rfl rfl ?_
 refine WP_seq ?_
 refine WP_region0 (by kernel_rfl) (fun _ => ?_)
 refine st (ov_assign (v := .bool false) rfl ?_)
 refine st_nil ?_
 refine WP_seq ?_
 refine WP_region0 (by kernel_rfl) (fun _ => ?_)
 refine st (ov_call (f := 12) (vals := [.int .i64 (5)]) (cap := []) (show _ = (.func (.func 12) #[] #[] : Value) from rfl) rfl Try.call12 (D_bNew (x := 5) (by decide) hS0) ?_)
 rintro _ w2 ⟨b1, rfl, hS3⟩
 refine st (ov_assign (v := .pointer (some ⟨b1, 0, none⟩)) rfl ?_)
 refine st_nil ?_
 refine WP_seq ?_
 refine WP_region0 (by kernel_rfl) (fun _ => ?_)
 refine st (ov_call (f := 11) (vals := [.int .i64 (2)]) (cap := []) (show _ = (.func (.func 11) #[] #[] : Value) from rfl) rfl Try.call11 (D_NewSet (n := 2) (by first | omega | (refine ⟨?_, ?_⟩ <;> omega)) hS3) ?_)
 rintro _ w5 ⟨b4, rfl, hS6⟩
 refine st (ov_assign (v := .pointer (some ⟨b4, 0, none⟩)) rfl ?_)
 refine st_nil ?_
 refine WP_seq ?_
 refine WP_seq ?_
 refine WP_region (by kernel_rfl) ?_
 refine st (ov_move (v := .pointer (some ⟨b1, 0, none⟩)) rfl ?_)
 refine st (ov_eqlPtr (b := b1) (o := 0) Try.underlying28 rfl ?_)
 refine st (ov_move (v := .bool false) rfl ?_)
 refine sty rfl rfl (ov_move (v := .pointer (some ⟨b4, 0, none⟩)) rfl ?_)
 refine sty rfl rfl (ov_eqlPtr (b := b4) (o := 0) Try.underlying26 rfl ?_)
 refine st (ov_pick_f (v := .bool false) rfl rfl ?_)
 refine st (ov_move (v := .bool false) rfl ?_)
 refine sty rfl rfl (ov_move (v := .pointer (some ⟨b1, 0, none⟩)) rfl ?_)
 refine sty rfl rfl (ov_call (f := 33) (vals := []) (cap := []) (show _ = (.func (.func 33) #[] #[] : Value) from rfl) rfl Try.call33 (D_two  hS6) ?_)
 rintro _ w8 ⟨v7, rfl, hS9⟩
 have hr10 := hS9.row (i := 0) rfl
 have hr10s : evT.deps.length * 8 ≤ 140737488355328 := hr10.2
 obtain ⟨G11, hA13, hB14, hS15, hk16⟩ := hS9.lend
 have hrd17 := RowE.rd hA13
 have hrd17s : evT.deps.length * 8 ≤ 140737488355328 := hrd17.small
 have hS18 : Sep G11 w8 ((BufO b1 (max 0 (min 5 256)) ([] : List Ev)) :: (SetO b4 2 ([] : List Ev)) :: Rs) w8 := hS15.sel 2 [1, 0] (Nat.le_add_left _ _) rfl rfl
 refine sty rfl rfl (ov_call (f := 14) (vals := [.pointer (some ⟨b1, 0, none⟩), .agg (evT.cells v7).toArray]) (cap := []) (show _ = (.func (.func 14) #[] #[] : Value) from rfl) rfl Try.call14 (D_bAddL (e := evT) hrd17 evT_ok hS18 (by decide) (by first | exact List.Pairwise.nil | exact srt1) (by decide)) ?_)
 rintro _ w19 ⟨rfl, hS20⟩
 have hS21 : Sep G W ((RowE (α := Int) own 3 v7 evT.deps) :: (BufO b1 (max 0 (min 5 256)) (bAddL (max 0 (min 5 256)) ([] : List Ev) evT)) :: (SetO b4 2 ([] : List Ev)) :: Rs) w19 := hk16 _ _ hS20
 rw [kb1] at hS21
 have hS22 : Sep G W ((RowE (α := Int) own 3 v7 evT.deps) :: (BufO b1 (max 0 (min 5 256)) [evT]) :: (SetO b4 2 ([] : List Ev)) :: Rs) w19 := hS21
 have hkn23 : ((bAddB (max 0 (min 5 256)) ([] : List Ev) evT)) = true := (by decide +kernel)
 rw [hkn23]
 refine sty rfl rfl (ov_not (a := true) rfl ?_)
 refine st (ov_pick_f (v := .bool false) rfl rfl ?_)
 refine st (ov_move (v := .bool false) rfl ?_)
 refine sty rfl rfl (ov_move (v := .pointer (some ⟨b1, 0, none⟩)) rfl ?_)
 refine sty rfl rfl (ov_call (f := 33) (vals := []) (cap := []) (show _ = (.func (.func 33) #[] #[] : Value) from rfl) rfl Try.call33 (D_two  hS22) ?_)
 rintro _ w25 ⟨v24, rfl, hS26⟩
 have hr27 := hS26.row (i := 0) rfl
 have hr27s : evT.deps.length * 8 ≤ 140737488355328 := hr27.2
 obtain ⟨G28, hA30, hB31, hS32, hk33⟩ := hS26.lend
 have hrd34 := RowE.rd hA30
 have hrd34s : evT.deps.length * 8 ≤ 140737488355328 := hrd34.small
 have hS35 : Sep G28 w25 ((BufO b1 (max 0 (min 5 256)) [evT]) :: (RowE (α := Int) own 3 v7 evT.deps) :: (SetO b4 2 ([] : List Ev)) :: Rs) w25 := hS32.sel 3 [1, 0, 2] (Nat.le_add_left _ _) rfl rfl
 refine sty rfl rfl (ov_call (f := 14) (vals := [.pointer (some ⟨b1, 0, none⟩), .agg (evT.cells v24).toArray]) (cap := []) (show _ = (.func (.func 14) #[] #[] : Value) from rfl) rfl Try.call14 (D_bAddL (e := evT) hrd34 evT_ok hS35 (by decide) (by first | exact List.Pairwise.nil | exact srt1) (by decide)) ?_)
 rintro _ w36 ⟨rfl, hS37⟩
 have hS38 : Sep G W ((RowE (α := Int) own 3 v24 evT.deps) :: (BufO b1 (max 0 (min 5 256)) (bAddL (max 0 (min 5 256)) [evT] evT)) :: (RowE (α := Int) own 3 v7 evT.deps) :: (SetO b4 2 ([] : List Ev)) :: Rs) w36 := hk33 _ _ hS37
 rw [kb2] at hS38
 have hS39 : Sep G W ((RowE (α := Int) own 3 v24 evT.deps) :: (BufO b1 (max 0 (min 5 256)) [evT]) :: (RowE (α := Int) own 3 v7 evT.deps) :: (SetO b4 2 ([] : List Ev)) :: Rs) w36 := hS38
 have hkn40 : ((bAddB (max 0 (min 5 256)) [evT] evT)) = false := (by decide +kernel)
 rw [hkn40]
 refine st (ov_pick_f (v := .bool false) rfl rfl ?_)
 refine st (ov_move (v := .bool false) rfl ?_)
 refine sty rfl rfl (ov_move (v := .pointer (some ⟨b1, 0, none⟩)) rfl ?_)
 refine sty rfl rfl (ov_move (v := .pointer (some ⟨b4, 0, none⟩)) rfl ?_)
 have hS41 : Sep G W ((SetO b4 2 ([] : List Ev)) :: (RowE (α := Int) own 3 v24 evT.deps) :: (BufO b1 (max 0 (min 5 256)) [evT]) :: (RowE (α := Int) own 3 v7 evT.deps) :: Rs) w36 := hS39.sel 4 [3, 0, 1, 2] (Nat.le_add_left _ _) rfl rfl
 obtain ⟨G42, hA44, hB45, hS46, hk47⟩ := hS41.lend
 obtain ⟨vv48, m49, R50, hb51, hv52, hr53⟩ := SetO.sh hA44
 have hsm54 : (vecE 2 ([] : List Ev)).length * 8 ≤ 140737488355328 := hv52.small
 have hS55 : Sep G42 w36 ((BufO b1 (max 0 (min 5 256)) [evT]) :: (RowE (α := Int) own 3 v24 evT.deps) :: (RowE (α := Int) own 3 v7 evT.deps) :: Rs) w36 := hS46.sel 3 [1, 0, 2] (Nat.le_add_left _ _) rfl rfl
 refine sty rfl rfl (ov_call (f := 17) (vals := [.pointer (some ⟨b1, 0, none⟩), .pointer (some ⟨b4, 0, none⟩)]) (cap := []) (show _ = (.func (.func 17) #[] #[] : Value) from rfl) rfl Try.call17 (D_Ready  hA44 hS55 (by decide) (Good.nil) (by decide) (by decide)) ?_)
 rintro v56 w57 ⟨_, rfl, hS58⟩
 have hr59 := hS58.row (i := 0) rfl
 have hr59s : (rdyO 2 ([] : List Ev) ([evT].filter (fun x => !hadE ([] : List Ev) x))).length * 96 ≤ 140737488355328 := hr59.2
 have hS60 : Sep G W ((SetO b4 2 ([] : List Ev)) :: (RowE (α := Ev) own 36 v56 (rdyO 2 ([] : List Ev) ([evT].filter (fun x => !hadE ([] : List Ev) x)))) :: (BufO b1 (max 0 (min 5 256)) (rdyB 2 ([] : List Ev) ([evT].filter (fun x => !hadE ([] : List Ev) x)))) :: (RowE (α := Int) own 3 v24 evT.deps) :: (RowE (α := Int) own 3 v7 evT.deps) :: Rs) w57 := hk47 _ _ hS58
 rw [kb3] at hS60
 have hS61 : Sep G W ((SetO b4 2 ([] : List Ev)) :: (RowE (α := Ev) own 36 v56 ([] : List Ev)) :: (BufO b1 (max 0 (min 5 256)) (rdyB 2 ([] : List Ev) ([evT].filter (fun x => !hadE ([] : List Ev) x)))) :: (RowE (α := Int) own 3 v24 evT.deps) :: (RowE (α := Int) own 3 v7 evT.deps) :: Rs) w57 := hS60
 have hr62 := hS61.row (i := 1) rfl
 have hr62s : ([] : List Ev).length * 96 ≤ 140737488355328 := hr62.2
 rw [kb4] at hS61
 have hS63 : Sep G W ((SetO b4 2 ([] : List Ev)) :: (RowE (α := Ev) own 36 v56 ([] : List Ev)) :: (BufO b1 (max 0 (min 5 256)) [evT]) :: (RowE (α := Int) own 3 v24 evT.deps) :: (RowE (α := Int) own 3 v7 evT.deps) :: Rs) w57 := hS61
 refine sty rfl rfl (ov_len (n := ([] : List Ev).length) Try.underlying22 rfl hr62.1 ?_)
 refine sty rfl rfl (ov_neq (k := .i64) (a := ((([] : List Ev).length : Nat) : Int)) (b := 0) rfl rfl ?_)
 have hkn64 : (!decide (((([] : List Ev).length : Nat) : Int) = 0)) = false := (by decide)
 rw [hkn64]
 refine st (ov_pick_f (v := .bool false) rfl rfl ?_)
 refine st (ov_move (v := .bool false) rfl ?_)
 refine sty rfl rfl (ov_move (v := .pointer (some ⟨b1, 0, none⟩)) rfl ?_)
 refine sty rfl rfl (ov_call (f := 34) (vals := []) (cap := []) (show _ = (.func (.func 34) #[] #[] : Value) from rfl) rfl Try.call34 (D_one  hS63) ?_)
 rintro _ w66 ⟨v65, rfl, hS67⟩
 have hr68 := hS67.row (i := 0) rfl
 have hr68s : evO.deps.length * 8 ≤ 140737488355328 := hr68.2
 obtain ⟨G69, hA71, hB72, hS73, hk74⟩ := hS67.lend
 have hrd75 := RowE.rd hA71
 have hrd75s : evO.deps.length * 8 ≤ 140737488355328 := hrd75.small
 have hS76 : Sep G69 w66 ((BufO b1 (max 0 (min 5 256)) [evT]) :: (SetO b4 2 ([] : List Ev)) :: (RowE (α := Ev) own 36 v56 ([] : List Ev)) :: (RowE (α := Int) own 3 v24 evT.deps) :: (RowE (α := Int) own 3 v7 evT.deps) :: Rs) w66 := hS73.sel 5 [2, 0, 1, 3, 4] (Nat.le_add_left _ _) rfl rfl
 refine sty rfl rfl (ov_call (f := 14) (vals := [.pointer (some ⟨b1, 0, none⟩), .agg (evO.cells v65).toArray]) (cap := []) (show _ = (.func (.func 14) #[] #[] : Value) from rfl) rfl Try.call14 (D_bAddL (e := evO) hrd75 evO_ok hS76 (by decide) (by first | exact List.Pairwise.nil | exact srt1) (by decide)) ?_)
 rintro _ w77 ⟨rfl, hS78⟩
 have hS79 : Sep G W ((RowE (α := Int) own 3 v65 evO.deps) :: (BufO b1 (max 0 (min 5 256)) (bAddL (max 0 (min 5 256)) [evT] evO)) :: (SetO b4 2 ([] : List Ev)) :: (RowE (α := Ev) own 36 v56 ([] : List Ev)) :: (RowE (α := Int) own 3 v24 evT.deps) :: (RowE (α := Int) own 3 v7 evT.deps) :: Rs) w77 := hk74 _ _ hS78
 rw [kb5] at hS79
 have hS80 : Sep G W ((RowE (α := Int) own 3 v65 evO.deps) :: (BufO b1 (max 0 (min 5 256)) [evO, evT]) :: (SetO b4 2 ([] : List Ev)) :: (RowE (α := Ev) own 36 v56 ([] : List Ev)) :: (RowE (α := Int) own 3 v24 evT.deps) :: (RowE (α := Int) own 3 v7 evT.deps) :: Rs) w77 := hS79
 have hkn81 : ((bAddB (max 0 (min 5 256)) [evT] evO)) = true := (by decide +kernel)
 rw [hkn81]
 refine sty rfl rfl (ov_not (a := true) rfl ?_)
 refine st (ov_pick_f (v := .bool false) rfl rfl ?_)
 refine st_nil ?_
 refine WP_cond_f rfl ?_
 refine WP_skip ?_
 refine WP_seq ?_
 refine WP_region0 (by kernel_rfl) (fun _ => ?_)
 refine st (ov_move (v := .pointer (some ⟨b1, 0, none⟩)) rfl ?_)
 refine st (ov_move (v := .pointer (some ⟨b4, 0, none⟩)) rfl ?_)
 have hS82 : Sep G W ((SetO b4 2 ([] : List Ev)) :: (RowE (α := Int) own 3 v65 evO.deps) :: (BufO b1 (max 0 (min 5 256)) [evO, evT]) :: (RowE (α := Ev) own 36 v56 ([] : List Ev)) :: (RowE (α := Int) own 3 v24 evT.deps) :: (RowE (α := Int) own 3 v7 evT.deps) :: Rs) w77 := hS80.sel 6 [2, 0, 1, 3, 4, 5] (Nat.le_add_left _ _) rfl rfl
 obtain ⟨G83, hA85, hB86, hS87, hk88⟩ := hS82.lend
 obtain ⟨vv89, m90, R91, hb92, hv93, hr94⟩ := SetO.sh hA85
 have hsm95 : (vecE 2 ([] : List Ev)).length * 8 ≤ 140737488355328 := hv93.small
 have hS96 : Sep G83 w77 ((BufO b1 (max 0 (min 5 256)) [evO, evT]) :: (RowE (α := Int) own 3 v65 evO.deps) :: (RowE (α := Ev) own 36 v56 ([] : List Ev)) :: (RowE (α := Int) own 3 v24 evT.deps) :: (RowE (α := Int) own 3 v7 evT.deps) :: Rs) w77 := hS87.sel 5 [1, 0, 2, 3, 4] (Nat.le_add_left _ _) rfl rfl
 refine st (ov_call (f := 17) (vals := [.pointer (some ⟨b1, 0, none⟩), .pointer (some ⟨b4, 0, none⟩)]) (cap := []) (show _ = (.func (.func 17) #[] #[] : Value) from rfl) rfl Try.call17 (D_Ready  hA85 hS96 (by decide) (Good.nil) (by decide) (by decide)) ?_)
 rintro v97 w98 ⟨_, rfl, hS99⟩
 have hr100 := hS99.row (i := 0) rfl
 have hr100s : (rdyO 2 ([] : List Ev) ([evO, evT].filter (fun x => !hadE ([] : List Ev) x))).length * 96 ≤ 140737488355328 := hr100.2
 have hS101 : Sep G W ((SetO b4 2 ([] : List Ev)) :: (RowE (α := Ev) own 36 v97 (rdyO 2 ([] : List Ev) ([evO, evT].filter (fun x => !hadE ([] : List Ev) x)))) :: (BufO b1 (max 0 (min 5 256)) (rdyB 2 ([] : List Ev) ([evO, evT].filter (fun x => !hadE ([] : List Ev) x)))) :: (RowE (α := Int) own 3 v65 evO.deps) :: (RowE (α := Ev) own 36 v56 ([] : List Ev)) :: (RowE (α := Int) own 3 v24 evT.deps) :: (RowE (α := Int) own 3 v7 evT.deps) :: Rs) w98 := hk88 _ _ hS99
 rw [kb6] at hS101
 have hS102 : Sep G W ((SetO b4 2 ([] : List Ev)) :: (RowE (α := Ev) own 36 v97 [evO, evT]) :: (BufO b1 (max 0 (min 5 256)) (rdyB 2 ([] : List Ev) ([evO, evT].filter (fun x => !hadE ([] : List Ev) x)))) :: (RowE (α := Int) own 3 v65 evO.deps) :: (RowE (α := Ev) own 36 v56 ([] : List Ev)) :: (RowE (α := Int) own 3 v24 evT.deps) :: (RowE (α := Int) own 3 v7 evT.deps) :: Rs) w98 := hS101
 have hr103 := hS102.row (i := 1) rfl
 have hr103s : [evO, evT].length * 96 ≤ 140737488355328 := hr103.2
 rw [kb7] at hS102
 have hS104 : Sep G W ((SetO b4 2 ([] : List Ev)) :: (RowE (α := Ev) own 36 v97 [evO, evT]) :: (BufO b1 (max 0 (min 5 256)) ([] : List Ev)) :: (RowE (α := Int) own 3 v65 evO.deps) :: (RowE (α := Ev) own 36 v56 ([] : List Ev)) :: (RowE (α := Int) own 3 v24 evT.deps) :: (RowE (α := Int) own 3 v7 evT.deps) :: Rs) w98 := hS102
 refine st (ov_assign (v := v97) rfl ?_)
 refine st_nil ?_
 refine WP_seq ?_
 refine WP_region (by kernel_rfl) ?_
 refine st (ov_move (v := v97) rfl ?_)
 refine st (ov_call (f := 34) (vals := []) (cap := []) (show _ = (.func (.func 34) #[] #[] : Value) from rfl) rfl Try.call34 (D_one  hS104) ?_)
 rintro _ w106 ⟨v105, rfl, hS107⟩
 have hr108 := hS107.row (i := 0) rfl
 have hr108s : evO.deps.length * 8 ≤ 140737488355328 := hr108.2
 refine st (ov_call (f := 33) (vals := []) (cap := []) (show _ = (.func (.func 33) #[] #[] : Value) from rfl) rfl Try.call33 (D_two  hS107) ?_)
 rintro _ w110 ⟨v109, rfl, hS111⟩
 have hr112 := hS111.row (i := 0) rfl
 have hr112s : evT.deps.length * 8 ≤ 140737488355328 := hr112.2
 refine st (ov_buildSlice (k := 10) (parts' := [(0, .agg (evO.cells v105).toArray), (1, .agg (evT.cells v109).toArray)]) (c := #[.int .i64 (evO.origin), .int .i64 (evO.seq), .int .i64 (evO.lam), v105, .int .i64 (evO.typ), .int .i64 (evO.agg), .int .i64 (evO.field), .int .i64 (evO.op), .int .i64 (evO.arg), .int .i64 (evO.key), .int .i64 (evT.origin), .int .i64 (evT.seq), .int .i64 (evT.lam), v109, .int .i64 (evT.typ), .int .i64 (evT.agg), .int .i64 (evT.field), .int .i64 (evT.op), .int .i64 (evT.arg), .int .i64 (evT.key)]) Try.underlying22 Try.sizeOf36 Try.zeroValue36 (by decide) rfl (by kernel_rfl) ?_)
 intro w115 b114 hn113
 have hS116 : Sep G W ((Blk b114 #[.int .i64 (evO.origin), .int .i64 (evO.seq), .int .i64 (evO.lam), v105, .int .i64 (evO.typ), .int .i64 (evO.agg), .int .i64 (evO.field), .int .i64 (evO.op), .int .i64 (evO.arg), .int .i64 (evO.key), .int .i64 (evT.origin), .int .i64 (evT.seq), .int .i64 (evT.lam), v109, .int .i64 (evT.typ), .int .i64 (evT.agg), .int .i64 (evT.field), .int .i64 (evT.op), .int .i64 (evT.arg), .int .i64 (evT.key)] 36) :: (RowE (α := Int) own 3 v109 evT.deps) :: (RowE (α := Int) own 3 v105 evO.deps) :: (SetO b4 2 ([] : List Ev)) :: (RowE (α := Ev) own 36 v97 [evO, evT]) :: (BufO b1 (max 0 (min 5 256)) ([] : List Ev)) :: (RowE (α := Int) own 3 v65 evO.deps) :: (RowE (α := Ev) own 36 v56 ([] : List Ev)) :: (RowE (α := Int) own 3 v24 evT.deps) :: (RowE (α := Int) own 3 v7 evT.deps) :: Rs) w115 := hS111.new hn113
 have hS117 : Sep G W ((RowE (α := Int) own 3 v109 evT.deps) :: (Blk b114 #[.int .i64 (evO.origin), .int .i64 (evO.seq), .int .i64 (evO.lam), v105, .int .i64 (evO.typ), .int .i64 (evO.agg), .int .i64 (evO.field), .int .i64 (evO.op), .int .i64 (evO.arg), .int .i64 (evO.key), .int .i64 (evT.origin), .int .i64 (evT.seq), .int .i64 (evT.lam), v109, .int .i64 (evT.typ), .int .i64 (evT.agg), .int .i64 (evT.field), .int .i64 (evT.op), .int .i64 (evT.arg), .int .i64 (evT.key)] 36) :: (RowE (α := Int) own 3 v105 evO.deps) :: (SetO b4 2 ([] : List Ev)) :: (RowE (α := Ev) own 36 v97 [evO, evT]) :: (BufO b1 (max 0 (min 5 256)) ([] : List Ev)) :: (RowE (α := Int) own 3 v65 evO.deps) :: (RowE (α := Ev) own 36 v56 ([] : List Ev)) :: (RowE (α := Int) own 3 v24 evT.deps) :: (RowE (α := Int) own 3 v7 evT.deps) :: Rs) w115 := hS116.sel 10 [1, 0, 2, 3, 4, 5, 6, 7, 8, 9] (Nat.le_add_left _ _) rfl rfl
 obtain ⟨G118, hA120, hB121, hS122, hk123⟩ := hS117.lend
 have hrd124 := RowE.rd hA120
 have hrd124s : evT.deps.length * 8 ≤ 140737488355328 := hrd124.small
 have hS125 : Sep G118 w115 ((RowE (α := Int) own 3 v105 evO.deps) :: (Blk b114 #[.int .i64 (evO.origin), .int .i64 (evO.seq), .int .i64 (evO.lam), v105, .int .i64 (evO.typ), .int .i64 (evO.agg), .int .i64 (evO.field), .int .i64 (evO.op), .int .i64 (evO.arg), .int .i64 (evO.key), .int .i64 (evT.origin), .int .i64 (evT.seq), .int .i64 (evT.lam), v109, .int .i64 (evT.typ), .int .i64 (evT.agg), .int .i64 (evT.field), .int .i64 (evT.op), .int .i64 (evT.arg), .int .i64 (evT.key)] 36) :: (SetO b4 2 ([] : List Ev)) :: (RowE (α := Ev) own 36 v97 [evO, evT]) :: (BufO b1 (max 0 (min 5 256)) ([] : List Ev)) :: (RowE (α := Int) own 3 v65 evO.deps) :: (RowE (α := Ev) own 36 v56 ([] : List Ev)) :: (RowE (α := Int) own 3 v24 evT.deps) :: (RowE (α := Int) own 3 v7 evT.deps) :: Rs) w115 := hS122.sel 9 [1, 0, 2, 3, 4, 5, 6, 7, 8] (Nat.le_add_left _ _) rfl rfl
 obtain ⟨G126, hA128, hB129, hS130, hk131⟩ := hS125.lend
 have hrd132 := RowE.rd hA128
 have hrd132s : evO.deps.length * 8 ≤ 140737488355328 := hrd132.small
 have hS133 : Sep G126 w115 ((RowE (α := Int) own 3 v65 evO.deps) :: (Blk b114 #[.int .i64 (evO.origin), .int .i64 (evO.seq), .int .i64 (evO.lam), v105, .int .i64 (evO.typ), .int .i64 (evO.agg), .int .i64 (evO.field), .int .i64 (evO.op), .int .i64 (evO.arg), .int .i64 (evO.key), .int .i64 (evT.origin), .int .i64 (evT.seq), .int .i64 (evT.lam), v109, .int .i64 (evT.typ), .int .i64 (evT.agg), .int .i64 (evT.field), .int .i64 (evT.op), .int .i64 (evT.arg), .int .i64 (evT.key)] 36) :: (SetO b4 2 ([] : List Ev)) :: (RowE (α := Ev) own 36 v97 [evO, evT]) :: (BufO b1 (max 0 (min 5 256)) ([] : List Ev)) :: (RowE (α := Ev) own 36 v56 ([] : List Ev)) :: (RowE (α := Int) own 3 v24 evT.deps) :: (RowE (α := Int) own 3 v7 evT.deps) :: Rs) w115 := hS130.sel 8 [4, 0, 1, 2, 3, 5, 6, 7] (Nat.le_add_left _ _) rfl rfl
 obtain ⟨G134, hA136, hB137, hS138, hk139⟩ := hS133.lend
 have hrd140 := RowE.rd hA136
 have hrd140s : evO.deps.length * 8 ≤ 140737488355328 := hrd140.small
 have hS141 : Sep G134 w115 ((RowE (α := Int) own 3 v24 evT.deps) :: (Blk b114 #[.int .i64 (evO.origin), .int .i64 (evO.seq), .int .i64 (evO.lam), v105, .int .i64 (evO.typ), .int .i64 (evO.agg), .int .i64 (evO.field), .int .i64 (evO.op), .int .i64 (evO.arg), .int .i64 (evO.key), .int .i64 (evT.origin), .int .i64 (evT.seq), .int .i64 (evT.lam), v109, .int .i64 (evT.typ), .int .i64 (evT.agg), .int .i64 (evT.field), .int .i64 (evT.op), .int .i64 (evT.arg), .int .i64 (evT.key)] 36) :: (SetO b4 2 ([] : List Ev)) :: (RowE (α := Ev) own 36 v97 [evO, evT]) :: (BufO b1 (max 0 (min 5 256)) ([] : List Ev)) :: (RowE (α := Ev) own 36 v56 ([] : List Ev)) :: (RowE (α := Int) own 3 v7 evT.deps) :: Rs) w115 := hS138.sel 7 [5, 0, 1, 2, 3, 4, 6] (Nat.le_add_left _ _) rfl rfl
 obtain ⟨G142, hA144, hB145, hS146, hk147⟩ := hS141.lend
 have hrd148 := RowE.rd hA144
 have hrd148s : evT.deps.length * 8 ≤ 140737488355328 := hrd148.small
 have hS149 : Sep G142 w115 ((RowE (α := Int) own 3 v7 evT.deps) :: (Blk b114 #[.int .i64 (evO.origin), .int .i64 (evO.seq), .int .i64 (evO.lam), v105, .int .i64 (evO.typ), .int .i64 (evO.agg), .int .i64 (evO.field), .int .i64 (evO.op), .int .i64 (evO.arg), .int .i64 (evO.key), .int .i64 (evT.origin), .int .i64 (evT.seq), .int .i64 (evT.lam), v109, .int .i64 (evT.typ), .int .i64 (evT.agg), .int .i64 (evT.field), .int .i64 (evT.op), .int .i64 (evT.arg), .int .i64 (evT.key)] 36) :: (SetO b4 2 ([] : List Ev)) :: (RowE (α := Ev) own 36 v97 [evO, evT]) :: (BufO b1 (max 0 (min 5 256)) ([] : List Ev)) :: (RowE (α := Ev) own 36 v56 ([] : List Ev)) :: Rs) w115 := hS146.sel 6 [5, 0, 1, 2, 3, 4] (Nat.le_add_left _ _) rfl rfl
 obtain ⟨G150, hA152, hB153, hS154, hk155⟩ := hS149.lend
 have hrd156 := RowE.rd hA152
 have hrd156s : evT.deps.length * 8 ≤ 140737488355328 := hrd156.small
 have hS157 : Sep G150 w115 ((RowE (α := Ev) own 36 v97 [evO, evT]) :: (Blk b114 #[.int .i64 (evO.origin), .int .i64 (evO.seq), .int .i64 (evO.lam), v105, .int .i64 (evO.typ), .int .i64 (evO.agg), .int .i64 (evO.field), .int .i64 (evO.op), .int .i64 (evO.arg), .int .i64 (evO.key), .int .i64 (evT.origin), .int .i64 (evT.seq), .int .i64 (evT.lam), v109, .int .i64 (evT.typ), .int .i64 (evT.agg), .int .i64 (evT.field), .int .i64 (evT.op), .int .i64 (evT.arg), .int .i64 (evT.key)] 36) :: (SetO b4 2 ([] : List Ev)) :: (BufO b1 (max 0 (min 5 256)) ([] : List Ev)) :: (RowE (α := Ev) own 36 v56 ([] : List Ev)) :: Rs) w115 := hS154.sel 5 [2, 0, 1, 3, 4] (Nat.le_add_left _ _) rfl rfl
 obtain ⟨G158, hA160, hB161, hS162, hk163⟩ := hS157.lend
 have hrd164 := RowE.rd hA160
 have hrd164s : [evO, evT].length * 96 ≤ 140737488355328 := hrd164.small
 have hS165 : Sep G158 w115 ((RowE (α := Ev) (shr G158 w115) 36 (.slice (some ⟨b114, 0, none⟩) 2 2) [evO, evT]) :: (SetO b4 2 ([] : List Ev)) :: (BufO b1 (max 0 (min 5 256)) ([] : List Ev)) :: (RowE (α := Ev) own 36 v56 ([] : List Ev)) :: Rs) w115 := Sep.blkRow (src := (shr G158 w115)) (l := [evO, evT]) (css := [evO.cells v105, evT.cells v109]) hS162 rfl ⟨fun _ _ => ⟨_, rfl, (RdS.base (RdS.base (RdS.base (RdS.base hrd132 hB137) hB145) hB153) hB161), evO_ok⟩, fun _ _ => ⟨_, rfl, (RdS.base (RdS.base (RdS.base (RdS.base (RdS.base hrd124 hB129) hB137) hB145) hB153) hB161), evT_ok⟩, trivial⟩ (by first | decide | (simp only [List.length_cons, List.length_nil]; decide))
 have hr166 := hS165.row (i := 0) rfl
 have hr166s : [evO, evT].length * 96 ≤ 140737488355328 := hr166.2
 obtain ⟨G167, hA169, hB170, hS171, hk172⟩ := hS165.lend
 have hrd173 := RowE.rdB hA169 hB170
 have hrd173s : [evO, evT].length * 96 ≤ 140737488355328 := hrd173.small
 refine st (ov_call (f := 19) (vals := [v97, (.slice (some ⟨b114, 0, none⟩) 2 2)]) (cap := []) (show _ = (.func (.func 19) #[] #[] : Value) from rfl) rfl Try.call19 (D_sameEvents (a := [evO, evT]) (va := v97) (b := [evO, evT]) (vb := (.slice (some ⟨b114, 0, none⟩) 2 2)) (RdS.base hrd164 hB170) hrd173 hS171) ?_)
 rintro _ w174 ⟨rfl, hS175⟩
 have hS176 : Sep G158 w115 ((RowE (α := Ev) (shr G158 w115) 36 (.slice (some ⟨b114, 0, none⟩) 2 2) [evO, evT]) :: (SetO b4 2 ([] : List Ev)) :: (BufO b1 (max 0 (min 5 256)) ([] : List Ev)) :: (RowE (α := Ev) own 36 v56 ([] : List Ev)) :: Rs) w174 := hk172 _ _ hS175
 have hS177 : Sep G150 w115 ((RowE (α := Ev) own 36 v97 [evO, evT]) :: (RowE (α := Ev) (shr G158 w115) 36 (.slice (some ⟨b114, 0, none⟩) 2 2) [evO, evT]) :: (SetO b4 2 ([] : List Ev)) :: (BufO b1 (max 0 (min 5 256)) ([] : List Ev)) :: (RowE (α := Ev) own 36 v56 ([] : List Ev)) :: Rs) w174 := hk163 _ _ hS176
 have hS178 : Sep G150 w115 ((RowE (α := Ev) own 36 v97 [evO, evT]) :: (SetO b4 2 ([] : List Ev)) :: (BufO b1 (max 0 (min 5 256)) ([] : List Ev)) :: (RowE (α := Ev) own 36 v56 ([] : List Ev)) :: Rs) w174 := hS177.sel 5 [0, 2, 3, 4] (Nat.le_add_left _ _) rfl rfl
 have hkn179 : (decide ([evO, evT] = [evO, evT])) = true := (by decide +kernel)
 rw [hkn179]
 refine st (ov_move (v := .bool true) rfl ?_)
 refine sty rfl rfl (ov_move (v := .pointer (some ⟨b1, 0, none⟩)) rfl ?_)
 have hS180 : Sep G150 w115 ((BufO b1 (max 0 (min 5 256)) ([] : List Ev)) :: (RowE (α := Ev) own 36 v97 [evO, evT]) :: (SetO b4 2 ([] : List Ev)) :: (RowE (α := Ev) own 36 v56 ([] : List Ev)) :: Rs) w174 := hS178.sel 4 [2, 0, 1, 3] (Nat.le_add_left _ _) rfl rfl
 obtain ⟨G181, hA183, hB184, hS185, hk186⟩ := hS180.lend
 obtain ⟨vl187, hb188, hl189⟩ := BufO.sh hA183
 have hsm190 : ([] : List Ev).length * 96 ≤ 140737488355328 := hl189.small
 refine sty rfl rfl (ov_call (f := 18) (vals := [.pointer (some ⟨b1, 0, none⟩)]) (cap := []) (show _ = (.func (.func 18) #[] #[] : Value) from rfl) rfl Try.call18 (D_bLen  hA183 hS185) ?_)
 rintro _ w191 ⟨rfl, hS192⟩
 have hS193 : Sep G150 w115 ((BufO b1 (max 0 (min 5 256)) ([] : List Ev)) :: (RowE (α := Ev) own 36 v97 [evO, evT]) :: (SetO b4 2 ([] : List Ev)) :: (RowE (α := Ev) own 36 v56 ([] : List Ev)) :: Rs) w191 := hk186 _ _ hS192
 refine sty rfl rfl (ov_eql (k := .i64) (a := ((([] : List Ev).length : Nat) : Int)) (b := 0) rfl rfl ?_)
 have hkn194 : (decide (((([] : List Ev).length : Nat) : Int) = 0)) = true := (by decide)
 rw [hkn194]
 refine st (ov_pick_t (v := .bool true) rfl rfl ?_)
 refine st (ov_move (v := .bool true) rfl ?_)
 refine sty rfl rfl (ov_move (v := .pointer (some ⟨b4, 0, none⟩)) rfl ?_)
 have hS195 : Sep G150 w115 ((SetO b4 2 ([] : List Ev)) :: (BufO b1 (max 0 (min 5 256)) ([] : List Ev)) :: (RowE (α := Ev) own 36 v97 [evO, evT]) :: (RowE (α := Ev) own 36 v56 ([] : List Ev)) :: Rs) w191 := hS193.sel 4 [2, 0, 1, 3] (Nat.le_add_left _ _) rfl rfl
 obtain ⟨G196, hA198, hB199, hS200, hk201⟩ := hS195.lend
 obtain ⟨vv202, m203, R204, hb205, hv206, hr207⟩ := SetO.sh hA198
 have hsm208 : (vecE 2 ([] : List Ev)).length * 8 ≤ 140737488355328 := hv206.small
 refine sty rfl rfl (ov_call (f := 35) (vals := [.pointer (some ⟨b4, 0, none⟩)]) (cap := []) (show _ = (.func (.func 35) #[] #[] : Value) from rfl) rfl Try.call35 (D_Len  hA198 hS200 (by decide)) ?_)
 rintro _ w209 ⟨rfl, hS210⟩
 have hS211 : Sep G150 w115 ((SetO b4 2 ([] : List Ev)) :: (BufO b1 (max 0 (min 5 256)) ([] : List Ev)) :: (RowE (α := Ev) own 36 v97 [evO, evT]) :: (RowE (α := Ev) own 36 v56 ([] : List Ev)) :: Rs) w209 := hk201 _ _ hS210
 refine sty rfl rfl (ov_eql (k := .i64) (a := ((([] : List Ev).length : Nat) : Int)) (b := 0) rfl rfl ?_)
 have hkn212 : (decide (((([] : List Ev).length : Nat) : Int) = 0)) = true := (by decide)
 rw [hkn212]
 refine st (ov_pick_t (v := .bool true) rfl rfl ?_)
 refine st (ov_assign (v := .bool true) rfl ?_)
 refine st_nil ?_
 refine WP_ret ?_
 refine fin1 Try.results9 (show _ = (.bool true : Value) from rfl) ?_
 have hS213 : Sep G142 w115 ((RowE (α := Int) own 3 v7 evT.deps) :: (SetO b4 2 ([] : List Ev)) :: (BufO b1 (max 0 (min 5 256)) ([] : List Ev)) :: (RowE (α := Ev) own 36 v97 [evO, evT]) :: (RowE (α := Ev) own 36 v56 ([] : List Ev)) :: Rs) w209 := hk155 _ _ hS211
 have hS214 : Sep G134 w115 ((RowE (α := Int) own 3 v24 evT.deps) :: (RowE (α := Int) own 3 v7 evT.deps) :: (SetO b4 2 ([] : List Ev)) :: (BufO b1 (max 0 (min 5 256)) ([] : List Ev)) :: (RowE (α := Ev) own 36 v97 [evO, evT]) :: (RowE (α := Ev) own 36 v56 ([] : List Ev)) :: Rs) w209 := hk147 _ _ hS213
 have hS215 : Sep G126 w115 ((RowE (α := Int) own 3 v65 evO.deps) :: (RowE (α := Int) own 3 v24 evT.deps) :: (RowE (α := Int) own 3 v7 evT.deps) :: (SetO b4 2 ([] : List Ev)) :: (BufO b1 (max 0 (min 5 256)) ([] : List Ev)) :: (RowE (α := Ev) own 36 v97 [evO, evT]) :: (RowE (α := Ev) own 36 v56 ([] : List Ev)) :: Rs) w209 := hk139 _ _ hS214
 have hS216 : Sep G118 w115 ((RowE (α := Int) own 3 v105 evO.deps) :: (RowE (α := Int) own 3 v65 evO.deps) :: (RowE (α := Int) own 3 v24 evT.deps) :: (RowE (α := Int) own 3 v7 evT.deps) :: (SetO b4 2 ([] : List Ev)) :: (BufO b1 (max 0 (min 5 256)) ([] : List Ev)) :: (RowE (α := Ev) own 36 v97 [evO, evT]) :: (RowE (α := Ev) own 36 v56 ([] : List Ev)) :: Rs) w209 := hk131 _ _ hS215
 have hS217 : Sep G W ((RowE (α := Int) own 3 v109 evT.deps) :: (RowE (α := Int) own 3 v105 evO.deps) :: (RowE (α := Int) own 3 v65 evO.deps) :: (RowE (α := Int) own 3 v24 evT.deps) :: (RowE (α := Int) own 3 v7 evT.deps) :: (SetO b4 2 ([] : List Ev)) :: (BufO b1 (max 0 (min 5 256)) ([] : List Ev)) :: (RowE (α := Ev) own 36 v97 [evO, evT]) :: (RowE (α := Ev) own 36 v56 ([] : List Ev)) :: Rs) w209 := hk123 _ _ hS216
 have hS218 : Sep G W Rs w209 := hS217.sel 9 [] (Nat.le_add_left _ _) rfl rfl
 refine ⟨rfl, hS218⟩

end Go.Proofs.Ytmiihhbeclhaoaa
end

section
/- Steps of the proofs of this seat: part E2. -/
set_option linter.unusedSimpArgs false
set_option linter.unusedVariables false
set_option maxRecDepth 8000
set_option maxHeartbeats 4000000
namespace Go.Proofs.Ytmiihhbeclhaoaa
open Go.Proofs Go.RowKit

structure RoomI (m : Int) (k : Nat) (B : List Ev) : Prop where
  len : ((B.length : Nat) : Int) = min ((k : Nat) : Int) m
  srt : Srt B
  seq : ∀ x ∈ B, x.seq ≤ k
end Go.Proofs.Ytmiihhbeclhaoaa
end

section
/- Plain laws of chapter 25: the first ones of each Id; what is told can be added; nothing is lost. -/
set_option linter.unusedSimpArgs false
set_option linter.unusedVariables false
namespace Go.Proofs.Ytmiihhbeclhaoaa
open Go.Proofs Go.RowKit

/-- The first ones of each Id. -/
def ownL (l : List Ev) : Nat → List Ev
  | 0 => []
  | k + 1 => if befE l k = true then ownL l k else ownL l k ++ [l.getD k default]
def chainOk (n : Nat) : List Ev → List Ev → Prop
  | _, [] => True
  | T, e :: O => addE n T e = 0 ∧ chainOk n (addL n T e) O
section
variable {l A B L T O : List Ev} {e x : Ev} {n k : Nat} {m : Int}
theorem own_yes (h : befE l k = true) : ownL l (k + 1) = ownL l k := by show (if befE l k = true then _ else _) = _; rw [if_pos h]
theorem own_no (h : befE l k = false) : ownL l (k + 1) = ownL l k ++ [l.getD k default] := by show (if befE l k = true then _ else _) = _; rw [if_neg (by rw [h]; decide)]
theorem same_trans {a b c : Ev} (h1 : sameId a b = true) (h2 : sameId b c = true) : sameId a c = true := sameId_iff.2 ((sameId_iff.1 h1).trans (sameId_iff.1 h2))
theorem take_snocE (hk : k < l.length) : l.take (k + 1) = l.take k ++ [l.getD k default] := by rw [List.take_succ_eq_append_getElem hk, getD_at _ hk]
theorem has_app : hasId (A ++ [x]) e = (hasId A e || sameId x e) := by unfold hasId; simp [List.any_append]
theorem own_has : ∀ {k : Nat}, k ≤ l.length → hasId (ownL l k) e = (l.take k).any fun x => sameId x e
  | 0, _ => by rw [List.take_zero]; rfl
  | k + 1, hk => by
    have ih := own_has (k := k) (Nat.le_of_lt hk)
    rw [take_snocE hk, List.any_append]
    have h1 : ([l.getD k default].any fun x => sameId x e) = sameId (l.getD k default) e := by simp
    rw [h1]
    cases hb : befE l k with
    | true =>
      rw [own_yes hb, ih]
      cases hs : sameId (l.getD k default) e with
      | false => rw [Bool.or_false]
      | true =>
        unfold befE at hb
        rw [List.any_eq_true] at hb
        obtain ⟨x, hx, hxs⟩ := hb
        have h3 : ((l.take k).any fun x => sameId x e) = true := List.any_eq_true.2 ⟨x, hx, same_trans hxs hs⟩
        rw [h3]; rfl
    | false => rw [own_no hb, has_app, ih]
theorem bef_own (hk : k ≤ l.length) : befE l k = hasId (ownL l k) (l.getD k default) := (own_has hk).symm
theorem own_ids : ∀ {k : Nat}, k ≤ l.length → ((ownL l k).map idE).Nodup
  | 0, _ => List.Pairwise.nil
  | k + 1, hk => by
    have ih := own_ids (Nat.le_of_lt hk)
    cases hb : befE l k with
    | true => rw [own_yes hb]; exact ih
    | false =>
      have h1 := has_no (B := ownL l k) (e := l.getD k default) (by rw [← bef_own (Nat.le_of_lt hk)]; exact hb)
      rw [own_no hb, List.map_append]
      exact List.nodup_append.2 ⟨ih, List.pairwise_singleton _ _, fun a ha b hb' e => h1 (by rw [List.mem_singleton.1 hb'] at e; rw [← e]; exact ha)⟩
theorem own_len : (ownL l k).length ≤ k := by
  induction k with
  | zero => exact Nat.le_refl _
  | succ k ih =>
    cases hb : befE l k with
    | true => rw [own_yes hb]; omega
    | false => rw [own_no hb, List.length_append, List.length_singleton]; omega
theorem has_perm (h : A.Perm B) : hasId A e = hasId B e := by
  unfold hasId
  rw [Bool.eq_iff_iff, List.any_eq_true, List.any_eq_true]
  exact ⟨fun ⟨x, hx, hs⟩ => ⟨x, h.mem_iff.1 hx, hs⟩, fun ⟨x, hx, hs⟩ => ⟨x, h.mem_iff.2 hx, hs⟩⟩
theorem sort_len : (sortE l).length = l.length := sortE_perm.length_eq
theorem bAdd_sort (hm : ((A.length : Nat) : Int) < m) : bAddB m (sortE A) e = !hasId A e ∧ bAddL m (sortE A) e = if hasId A e = true then sortE A else sortE (A ++ [e]) := by
  have h1 : bAddB m (sortE A) e = !hasId A e := by
    unfold bAddB
    rw [has_perm sortE_perm, sort_len, decide_eq_false (by omega), Bool.false_or]
  refine ⟨h1, ?_⟩
  unfold bAddL
  rw [h1, sortE_snoc]
  cases hasId A e <;> rfl
theorem keep_step (hk : k < l.length) (hm : ((l.length : Nat) : Int) < m) : bAddB m (sortE (ownL l k)) (l.getD k default) = !befE l k ∧ bAddL m (sortE (ownL l k)) (l.getD k default) = sortE (ownL l (k + 1)) := by
  have h0 := own_len (l := l) (k := k)
  obtain ⟨h1, h2⟩ := bAdd_sort (A := ownL l k) (e := l.getD k default) (m := m) (by omega)
  rw [← bef_own (Nat.le_of_lt hk)] at h1 h2
  refine ⟨h1, h2.trans ?_⟩
  cases hb : befE l k with
  | true => rw [if_pos rfl, own_yes hb]
  | false => rw [if_neg (by decide), own_no hb]
theorem hadc_yes (h1 : hadE L (l.getD k default) = true) (h2 : befE l k = false) : ((ownL l (k + 1)).filter (hadE L)).length = ((ownL l k).filter (hadE L)).length + 1 := by
  rw [own_no h2, List.filter_append, List.filter_cons, if_pos h1, List.filter_nil, List.length_append]; rfl
theorem hadc_no (h : hadE L (l.getD k default) = false ∨ befE l k = true) : ((ownL l (k + 1)).filter (hadE L)).length = ((ownL l k).filter (hadE L)).length := by
  cases h2 : befE l k with
  | true => rw [own_yes h2]
  | false =>
    have h1 : hadE L (l.getD k default) = false := h.resolve_right (by rw [h2]; decide)
    rw [own_no h2, List.filter_append, List.filter_cons, if_neg (by rw [h1]; decide), List.filter_nil, List.append_nil]
theorem fil_part {p : Ev → Bool} : ∀ {B : List Ev}, (B.filter fun x => !p x).length + (B.filter p).length = B.length
  | [] => rfl
  | x :: B => by
    have ih := fil_part (p := p) (B := B)
    rw [List.filter_cons, List.filter_cons]
    cases hp : p x
    · simp only [Bool.not_false, if_true, Bool.false_eq_true, if_false, List.length_cons]; omega
    · simp only [Bool.not_true, if_true, Bool.false_eq_true, if_false, List.length_cons]; omega
theorem rdy_cases : (∀ i, i < B.length → canE n T (B.getD i default) = false) ∨ ∃ q, q < B.length ∧ canE n T (B.getD q default) = true ∧ ∀ i, i < q → canE n T (B.getD i default) = false := by
  cases h : B.findIdx? (canE n T) with
  | none =>
    left
    rw [List.findIdx?_eq_none_iff] at h
    exact fun i hi => h _ (getD_mem hi)
  | some q =>
    right
    rw [List.findIdx?_eq_some_iff_getElem] at h
    obtain ⟨hq, h1, h2⟩ := h
    refine ⟨q, hq, by rw [getD_at _ hq]; exact h1, fun i hi => ?_⟩
    have := h2 i hi
    rw [getD_at _ (by omega)]
    simpa using this
theorem erase_perm {q : Nat} (hq : q < B.length) : B.Perm (B.getD q default :: B.eraseIdx q) := by
  rw [getD_at _ hq, List.eraseIdx_eq_take_drop_succ]
  conv => lhs; rw [← List.take_append_drop q B, List.drop_eq_getElem_cons hq]
  exact List.perm_middle
theorem rdy_all : ∀ (k : Nat) {T B : List Ev}, B.length = k → chainOk n T (rdyO n T B) ∧ (rdyO n T B ++ rdyB n T B).Perm B ∧ ∀ e ∈ rdyB n T B, canE n ((rdyO n T B).foldl (addL n) T) e = false := by
  intro k
  induction k with
  | zero =>
    intro T B hB
    obtain ⟨h1, h2⟩ := rdy_none (n := n) (T := T) (B := B) (fun i hi => by omega)
    rw [h1, h2]
    exact ⟨trivial, List.Perm.refl _, fun e he => by rw [List.length_eq_zero_iff.1 hB] at he; simp at he⟩
  | succ k ih =>
    intro T B hB
    rcases rdy_cases (n := n) (T := T) (B := B) with h | ⟨q, hq, hc, hm⟩
    · obtain ⟨h1, h2⟩ := rdy_none h
      rw [h1, h2]
      refine ⟨trivial, List.Perm.refl _, fun e he => ?_⟩
      obtain ⟨i, hi, rfl⟩ := List.getElem_of_mem he
      have := h i hi
      rw [getD_at _ hi] at this; exact this
    · obtain ⟨h1, h2⟩ := rdy_step hq hc hm
      have hl : (B.eraseIdx q).length = k := by rw [List.length_eraseIdx_of_lt hq]; omega
      obtain ⟨i1, i2, i3⟩ := ih (T := addL n T (B.getD q default)) hl
      rw [h1, h2]
      refine ⟨⟨of_decide_eq_true hc, i1⟩, ?_, fun e he => i3 e he⟩
      rw [List.cons_append]
      exact (i2.cons _).trans (erase_perm hq).symm
theorem chain_at : ∀ {O T : List Ev} {k : Nat}, chainOk n T O → k < O.length → addE n ((O.take k).foldl (addL n) T) (O.getD k default) = 0
  | e :: O, T, 0, h, _ => h.1
  | e :: O, T, k + 1, h, hk => chain_at (O := O) (k := k) h.2 (by simpa using hk)
theorem fold_snoc (hk : k < O.length) : (O.take (k + 1)).foldl (addL n) L = addL n ((O.take k).foldl (addL n) L) (O.getD k default) := by
  rw [take_snocE hk, List.foldl_append]; rfl
theorem addL_memE : x ∈ addL n T e → x = e ∨ x ∈ T := by
  unfold addL
  split
  · exact fun h => insE_mem.1 h
  · exact fun h => .inr h
theorem fold_mem : ∀ {O T : List Ev}, x ∈ O.foldl (addL n) T → x ∈ T ∨ x ∈ O
  | [], T, h => .inl h
  | e :: O, T, h => by
    rcases fold_mem (O := O) h with h | h
    · rcases addL_memE h with rfl | h
      · exact .inr (List.mem_cons_self ..)
      · exact .inl h
    · exact .inr (List.mem_cons_of_mem _ h)
theorem had_iff : hadE T e = true ↔ ∃ x ∈ T, idE x = idE e := by
  unfold hadE
  constructor
  · intro h
    obtain ⟨x, _, hx, he⟩ := getE_some h
    exact ⟨x, hx, he⟩
  · rintro ⟨x, hx, he⟩
    unfold getE
    rw [List.find?_isSome]
    have he1 : x.origin = e.origin ∧ x.seq = e.seq := by unfold idE at he; exact ⟨congrArg Prod.fst he, congrArg Prod.snd he⟩
    exact ⟨x, hx, by simpa using he1⟩
/-- Once what is ready is added, nothing of what is left is there, and nothing of it can be added. -/
theorem rdy_after (hi : (B.map idE).Nodup) (hn : ∀ x ∈ B, hadE L x = false) : (rdyB n L B).filter (fun x => !hadE ((rdyO n L B).foldl (addL n) L) x) = rdyB n L B ∧ rdyO n ((rdyO n L B).foldl (addL n) L) (rdyB n L B) = [] ∧ rdyB n ((rdyO n L B).foldl (addL n) L) (rdyB n L B) = rdyB n L B := by
  obtain ⟨_, hp, hc⟩ := rdy_all (n := n) B.length (T := L) (B := B) rfl
  refine ⟨?_, ?_⟩
  · rw [List.filter_eq_self]
    intro e he
    cases hh : hadE ((rdyO n L B).foldl (addL n) L) e with
    | false => rfl
    | true =>
      obtain ⟨x, hx, hxe⟩ := had_iff.1 hh
      rcases fold_mem hx with hx | hx
      · have h1 := hn e (hp.mem_iff.1 (List.mem_append_right _ he))
        rw [had_iff.2 ⟨x, hx, hxe⟩] at h1; cases h1
      · have h2 := (hp.map idE).nodup_iff.2 hi
        rw [List.map_append, List.nodup_append] at h2
        exact absurd hxe (h2.2.2 _ (List.mem_map_of_mem (f := idE) hx) _ (List.mem_map_of_mem (f := idE) he))
  · exact rdy_none (fun i hi' => hc _ (getD_mem hi'))
theorem all_count (hk : k ≤ l.length) : (rdyO n L ((sortE (ownL l k)).filter fun x => !hadE L x)).length + (rdyB n L ((sortE (ownL l k)).filter fun x => !hadE L x)).length + ((ownL l k).filter (hadE L)).length = (ownL l k).length := by
  obtain ⟨_, hp, _⟩ := rdy_all (n := n) _ (T := L) (B := (sortE (ownL l k)).filter fun x => !hadE L x) rfl
  have h1 := hp.length_eq
  rw [List.length_append] at h1
  have h2 := fil_part (p := hadE L) (B := sortE (ownL l k))
  have h3 := ((sortE_perm (l := ownL l k)).filter (hadE L)).length_eq
  rw [sort_len] at h2
  omega
end
end Go.Proofs.Ytmiihhbeclhaoaa
end

section
/- Steps of the proofs of this seat: part E3. -/
set_option linter.unusedSimpArgs false
set_option linter.unusedVariables false
set_option maxRecDepth 8000
set_option maxHeartbeats 4000000
namespace Go.Proofs.Ytmiihhbeclhaoaa
open Go.Proofs Go.RowKit

theorem fold_len {n : Nat} {O L : List Ev} {k : Nat} : ((O.take k).foldl (addL n) L).length ≤ L.length + O.length := by
  have h1 := foldl_len (n := n) (l := O.take k) (L := L)
  rw [List.length_take] at h1
  omega
theorem D_BufferAll {G : Nat → Prop} {W w : World} {Rs : List HP} {n : Int} (hn : InR n) {vl : Value} {l : List Ev} (hl : RdS W G vl l) {there : Int} (hthere : InR there) (hS0 : Sep G W Rs w) : Ret Try.prog 3 [.int .i64 (n), vl, .int .i64 (there)] w (fun r w' => r = (.bool true : Value) ∧ Sep G W Rs w') := by
 have hls : l.length * 96 ≤ 140737488355328 := hl.small
 refine Calls_of_WP (args := [.int .i64 (n), vl, .int .i64 (there)]) Try.func3 rfl rfl ?_
 refine WP_seq ?_
 refine WP_region0 (by kernel_rfl) (fun _ => ?_)
 refine st (ov_assign (v := .bool false) rfl ?_)
 refine st_nil ?_
 refine WP_seq ?_
 refine WP_seq ?_
 refine WP_region0 (by kernel_rfl) (fun _ => ?_)
 refine st (ov_move (v := vl) rfl ?_)
 refine st (ov_call (f := 8) (vals := [vl]) (cap := []) (show _ = (.func (.func 8) #[] #[] : Value) from rfl) rfl Try.call8 (D_long (l := l) (vl := vl) hl hS0) ?_)
 rintro _ w3 ⟨b1, rfl, hb2, hS4⟩
 refine st_nil ?_
 cases hc5 : b1
 ·skip
  have hc5r := hc5
  obtain ⟨hf9, _⟩ := hb2 hc5r
  refine WP_cond_f rfl ?_
  refine WP_skip ?_
  refine WP_seq ?_
  refine WP_region0 (by kernel_rfl) (fun _ => ?_)
  refine st (ov_move (v := .int .i64 (n)) rfl ?_)
  refine st (ov_call (f := 10) (vals := [.int .i64 (n), .int .i64 (64)]) (cap := []) (show _ = (.func (.func 10) #[] #[] : Value) from rfl) rfl Try.call10 (D_PickF (x := n) (n := 64) hn (by first | omega | (refine ⟨?_, ?_⟩ <;> omega)) hS4) ?_)
  rintro _ w9 ⟨q6, rfl, hq7, hqe8, hS10⟩
  have hr11 : InR ((1 + q6 : Nat) : Int) := by first | omega | (simp only [lens]; omega)
  refine st (ov_add (r := ((1 + q6 : Nat) : Int)) (k := .i64) (a := 1) (b := ((q6 : Nat) : Int)) rfl rfl (by rw [show (1 + ((q6 : Nat) : Int) : Int) = ((1 + q6 : Nat) : Int) by first | omega | (simp only [lens]; omega)]; exact wrap_in hr11) ?_)
  refine st (ov_assign (v := .int .i64 ((1 + q6 : Nat) : Int)) rfl ?_)
  refine st_nil ?_
  refine WP_seq ?_
  refine WP_region0 (by kernel_rfl) (fun _ => ?_)
  refine st (ov_move (v := .int .i64 (there)) rfl ?_)
  refine st (ov_move (v := vl) rfl ?_)
  refine st (ov_len (n := l.length) Try.underlying22 rfl hl.sl ?_)
  have hr12 : InR ((l.length + 1 : Nat) : Int) := by first | omega | (simp only [lens]; omega)
  refine st (ov_add (r := ((l.length + 1 : Nat) : Int)) (k := .i64) (a := ((l.length : Nat) : Int)) (b := 1) rfl rfl (by rw [show (((l.length : Nat) : Int) + 1 : Int) = ((l.length + 1 : Nat) : Int) by first | omega | (simp only [lens]; omega)]; exact wrap_in hr12) ?_)
  refine st (ov_call (f := 10) (vals := [.int .i64 (there), .int .i64 ((l.length + 1 : Nat) : Int)]) (cap := []) (show _ = (.func (.func 10) #[] #[] : Value) from rfl) rfl Try.call10 (D_PickF (x := there) (n := l.length + 1) hthere (by first | omega | (refine ⟨?_, ?_⟩ <;> omega)) hS10) ?_)
  rintro _ w16 ⟨q13, rfl, hq14, hqe15, hS17⟩
  refine st (ov_assign (v := .int .i64 ((q13 : Nat) : Int)) rfl ?_)
  refine st_nil ?_
  refine WP_seq ?_
  refine WP_region0 (by kernel_rfl) (fun _ => ?_)
  refine st (ov_move (v := .int .i64 ((1 + q6 : Nat) : Int)) rfl ?_)
  refine st (ov_call (f := 11) (vals := [.int .i64 ((1 + q6 : Nat) : Int)]) (cap := []) (show _ = (.func (.func 11) #[] #[] : Value) from rfl) rfl Try.call11 (D_NewSet (n := 1 + q6) (by first | omega | (refine ⟨?_, ?_⟩ <;> omega)) hS17) ?_)
  rintro _ w19 ⟨b18, rfl, hS20⟩
  refine st (ov_assign (v := .pointer (some ⟨b18, 0, none⟩)) rfl ?_)
  refine st_nil ?_
  refine WP_seq ?_
  refine WP_region0 (by kernel_rfl) (fun _ => ?_)
  refine st (ov_call (f := 12) (vals := [.int .i64 (256)]) (cap := []) (show _ = (.func (.func 12) #[] #[] : Value) from rfl) rfl Try.call12 (D_bNew (x := 256) (by decide) hS20) ?_)
  rintro _ w22 ⟨b21, rfl, hS23⟩
  refine st (ov_assign (v := .pointer (some ⟨b21, 0, none⟩)) rfl ?_)
  refine st_nil ?_
  refine WP_seq ?_
  refine WP_seq ?_
  refine WP_region (by kernel_rfl) ?_
  refine st (ov_move (v := .pointer (some ⟨b18, 0, none⟩)) rfl ?_)
  refine st (ov_eqlPtr (b := b18) (o := 0) Try.underlying26 rfl ?_)
  refine st (ov_move (v := .bool false) rfl ?_)
  refine sty rfl rfl (ov_move (v := .pointer (some ⟨b21, 0, none⟩)) rfl ?_)
  refine sty rfl rfl (ov_eqlPtr (b := b21) (o := 0) Try.underlying28 rfl ?_)
  refine st (ov_pick_f (v := .bool false) rfl rfl ?_)
  refine st_nil ?_
  refine WP_cond_f rfl ?_
  refine WP_skip ?_
  refine WP_seq ?_
  refine WP_seq ?_
  refine WP_region0 (by kernel_rfl) (fun _ => ?_)
  refine st (ov_assign (v := .int .i64 (0)) rfl ?_)
  refine st_nil ?_
  refine WP_block ?_
  have hqt9 : q13 ≤ l.length := by omega
  refine WP_loop (fun mq σ wq => ∃ (k : Nat) (ρ : Env), mq = q13 - k ∧ σ = setAll ρ [(0, .int .i64 ((1 + q6 : Nat) : Int)), (1, vl), (2, .int .i64 ((q13 : Nat) : Int)), (7, .pointer (some ⟨b18, 0, none⟩)), (8, .pointer (some ⟨b21, 0, none⟩)), (9, .int .i64 ((k : Nat) : Int))] ∧ (k ≤ q13) ∧ Sep G W ((BufO b21 (max 0 (min 256 256)) ([] : List Ev)) :: (SetO b18 (1 + q6) (laidL (1 + q6) (l.take k))) :: Rs) wq) ⟨0, _, rfl, setAll_self ⟨rfl, rfl, rfl, rfl, rfl, rfl, trivial⟩, Nat.zero_le _, hS23⟩ ?_
  rintro m25 σ26 w24 ⟨k, ρl1, rfl, rfl, hkk, hS27⟩
  refine WP_seq ?_
  refine WP_seq ?_
  refine WP_region0 (by kernel_rfl) (fun _ => ?_)
  refine st (ov_move (v := .int .i64 ((k : Nat) : Int)) rfl ?_)
  refine st (ov_move (v := .int .i64 ((q13 : Nat) : Int)) rfl ?_)
  refine st (ov_lss (k := .i64) (a := ((k : Nat) : Int)) (b := ((q13 : Nat) : Int)) rfl rfl ?_)
  refine st_nil ?_
  cases hc28 : decide (((k : Nat) : Int) < ((q13 : Nat) : Int))
  ·skip
   have hc28r := hc28
   have hc28 := of_decide_eq_false hc28
   refine WP_cond_f rfl ?_
   refine WP_exit ?_
   refine blk_exit ?_
   refine WP_seq ?_
   refine WP_region0 (by kernel_rfl) (fun _ => ?_)
   refine st (ov_assign (v := .int .i64 (0)) rfl ?_)
   refine st_nil ?_
   refine WP_seq ?_
   refine WP_seq ?_
   refine WP_region0 (by kernel_rfl) (fun _ => ?_)
   refine st (ov_assign (v := .int .i64 (0)) rfl ?_)
   refine st_nil ?_
   refine WP_block ?_
   refine WP_loop (fun mq σ wq => ∃ (k : Nat) (L9 : List Ev) (ρ : Env), mq = l.length - k ∧ σ = setAll ρ [(1, vl), (7, .pointer (some ⟨b18, 0, none⟩)), (8, .pointer (some ⟨b21, 0, none⟩)), (10, .int .i64 (((ownL l k).length : Nat) : Int)), (11, .int .i64 ((k : Nat) : Int))] ∧ (k ≤ l.length) ∧ (Good (1 + q6) L9) ∧ (L9.length ≤ 60) ∧ Sep G W ((BufO b21 (max 0 (min 256 256)) (sortE (ownL l k))) :: (SetO b18 (1 + q6) L9) :: Rs) wq) ⟨0, (laidL (1 + q6) (l.take k)), _, rfl, setAll_self ⟨rfl, rfl, rfl, rfl, rfl, trivial⟩, Nat.zero_le _, laidL_good, (Nat.le_trans laid_take (by omega)), hS27⟩ ?_
   rintro m30 σ31 w29 ⟨k, L9, ρl2, rfl, rfl, hkk, hG9, hL9, hS32⟩
   have hown9 := own_len (l := l) (k := k)
   refine WP_seq ?_
   refine WP_seq ?_
   refine WP_region0 (by kernel_rfl) (fun _ => ?_)
   refine st (ov_move (v := .int .i64 ((k : Nat) : Int)) rfl ?_)
   refine st (ov_move (v := vl) rfl ?_)
   refine st (ov_len (n := l.length) Try.underlying22 rfl hl.sl ?_)
   refine st (ov_lss (k := .i64) (a := ((k : Nat) : Int)) (b := ((l.length : Nat) : Int)) rfl rfl ?_)
   refine st_nil ?_
   cases hc33 : decide (((k : Nat) : Int) < ((l.length : Nat) : Int))
   ·skip
    have hc33r := hc33
    have hc33 := of_decide_eq_false hc33
    refine WP_cond_f rfl ?_
    refine WP_exit ?_
    refine blk_exit ?_
    refine WP_seq ?_
    obtain rfl : k = l.length := by omega
    refine WP_region0 (by kernel_rfl) (fun _ => ?_)
    refine st (ov_assign (v := .int .i64 (0)) rfl ?_)
    refine st_nil ?_
    refine WP_seq ?_
    refine WP_seq ?_
    refine WP_region0 (by kernel_rfl) (fun _ => ?_)
    refine st (ov_assign (v := .int .i64 (0)) rfl ?_)
    refine st_nil ?_
    refine WP_block ?_
    refine WP_loop (fun mq σ wq => ∃ (k : Nat) (ρ : Env), mq = l.length - k ∧ σ = setAll ρ [(1, vl), (7, .pointer (some ⟨b18, 0, none⟩)), (8, .pointer (some ⟨b21, 0, none⟩)), (10, .int .i64 (((ownL l l.length).length : Nat) : Int)), (12, .int .i64 ((((ownL l k).filter (hadE L9)).length : Nat) : Int)), (13, .int .i64 ((k : Nat) : Int))] ∧ (k ≤ l.length) ∧ Sep G W ((BufO b21 (max 0 (min 256 256)) (sortE (ownL l l.length))) :: (SetO b18 (1 + q6) L9) :: Rs) wq) ⟨0, _, rfl, setAll_self ⟨rfl, rfl, rfl, rfl, rfl, rfl, trivial⟩, Nat.zero_le _, hS32⟩ ?_
    rintro m35 σ36 w34 ⟨k, ρl3, rfl, rfl, hkk, hS37⟩
    have hown9 := own_len (l := l) (k := k)
    have hofl9 := List.length_filter_le (hadE L9) (ownL l k)
    refine WP_seq ?_
    refine WP_seq ?_
    refine WP_region0 (by kernel_rfl) (fun _ => ?_)
    refine st (ov_move (v := .int .i64 ((k : Nat) : Int)) rfl ?_)
    refine st (ov_move (v := vl) rfl ?_)
    refine st (ov_len (n := l.length) Try.underlying22 rfl hl.sl ?_)
    refine st (ov_lss (k := .i64) (a := ((k : Nat) : Int)) (b := ((l.length : Nat) : Int)) rfl rfl ?_)
    refine st_nil ?_
    cases hc38 : decide (((k : Nat) : Int) < ((l.length : Nat) : Int))
    ·skip
     have hc38r := hc38
     have hc38 := of_decide_eq_false hc38
     refine WP_cond_f rfl ?_
     refine WP_exit ?_
     refine blk_exit ?_
     refine WP_seq ?_
     obtain rfl : k = l.length := by omega
     have hown9 := own_len (l := l) (k := l.length)
     have hsl9 : (sortE (ownL l l.length)).length ≤ 60 := by rw [sort_len]; omega
     have hct9 := all_count (n := (1 + q6)) (L := L9) (l := l) (k := l.length) (Nat.le_refl _)
     obtain ⟨hch9, hpm9, _⟩ := rdy_all (n := (1 + q6)) _ (T := L9) (B := ((sortE (ownL l l.length)).filter (fun x => !hadE L9 x))) rfl
     obtain ⟨hra9, hrb9, hrc9⟩ := rdy_after (n := (1 + q6)) (L := L9) (B := ((sortE (ownL l l.length)).filter (fun x => !hadE L9 x))) (List.Nodup.sublist (List.filter_sublist.map idE) ((sortE_perm.map idE).nodup_iff.2 (own_ids (Nat.le_refl _)))) (fun x hx => by have h9 := (List.mem_filter.1 hx).2; simpa using h9)
     refine WP_region0 (by kernel_rfl) (fun _ => ?_)
     refine st (ov_move (v := .pointer (some ⟨b21, 0, none⟩)) rfl ?_)
     refine st (ov_move (v := .pointer (some ⟨b18, 0, none⟩)) rfl ?_)
     have hS39 : Sep G W ((SetO b18 (1 + q6) L9) :: (BufO b21 (max 0 (min 256 256)) (sortE (ownL l l.length))) :: Rs) w34 := hS37.sel 2 [1, 0] (Nat.le_add_left _ _) rfl rfl
     obtain ⟨G40, hA42, hB43, hS44, hk45⟩ := hS39.lend
     obtain ⟨vv46, m47, R48, hb49, hv50, hr51⟩ := SetO.sh hA42
     have hsm52 : (vecE (1 + q6) L9).length * 8 ≤ 140737488355328 := hv50.small
     refine st (ov_call (f := 17) (vals := [.pointer (some ⟨b21, 0, none⟩), .pointer (some ⟨b18, 0, none⟩)]) (cap := []) (show _ = (.func (.func 17) #[] #[] : Value) from rfl) rfl Try.call17 (D_Ready  hA42 hS44 ((by decide)) (by first | exact hG9 | exact foldl_good hG9) (by omega) (by omega)) ?_)
     rintro v53 w54 ⟨_, rfl, hS55⟩
     have hr56 := hS55.row (i := 0) rfl
     have hr56s : (rdyO (1 + q6) L9 ((sortE (ownL l l.length)).filter (fun x => !hadE L9 x))).length * 96 ≤ 140737488355328 := hr56.2
     have hS57 : Sep G W ((SetO b18 (1 + q6) L9) :: (RowE (α := Ev) own 36 v53 (rdyO (1 + q6) L9 ((sortE (ownL l l.length)).filter (fun x => !hadE L9 x)))) :: (BufO b21 (max 0 (min 256 256)) (rdyB (1 + q6) L9 ((sortE (ownL l l.length)).filter (fun x => !hadE L9 x)))) :: Rs) w54 := hk45 _ _ hS55
     refine st (ov_assign (v := v53) rfl ?_)
     refine st_nil ?_
     refine WP_seq ?_
     refine WP_seq ?_
     refine WP_region0 (by kernel_rfl) (fun _ => ?_)
     refine st (ov_move (v := v53) rfl ?_)
     refine st (ov_len (n := (rdyO (1 + q6) L9 ((sortE (ownL l l.length)).filter (fun x => !hadE L9 x))).length) Try.underlying22 rfl hr56.1 ?_)
     refine st (ov_move (v := .pointer (some ⟨b21, 0, none⟩)) rfl ?_)
     have hS58 : Sep G W ((BufO b21 (max 0 (min 256 256)) (rdyB (1 + q6) L9 ((sortE (ownL l l.length)).filter (fun x => !hadE L9 x)))) :: (SetO b18 (1 + q6) L9) :: (RowE (α := Ev) own 36 v53 (rdyO (1 + q6) L9 ((sortE (ownL l l.length)).filter (fun x => !hadE L9 x)))) :: Rs) w54 := hS57.sel 3 [2, 0, 1] (Nat.le_add_left _ _) rfl rfl
     obtain ⟨G59, hA61, hB62, hS63, hk64⟩ := hS58.lend
     obtain ⟨vl65, hb66, hl67⟩ := BufO.sh hA61
     have hsm68 : (rdyB (1 + q6) L9 ((sortE (ownL l l.length)).filter (fun x => !hadE L9 x))).length * 96 ≤ 140737488355328 := hl67.small
     refine st (ov_call (f := 18) (vals := [.pointer (some ⟨b21, 0, none⟩)]) (cap := []) (show _ = (.func (.func 18) #[] #[] : Value) from rfl) rfl Try.call18 (D_bLen  hA61 hS63) ?_)
     rintro _ w69 ⟨rfl, hS70⟩
     have hS71 : Sep G W ((BufO b21 (max 0 (min 256 256)) (rdyB (1 + q6) L9 ((sortE (ownL l l.length)).filter (fun x => !hadE L9 x)))) :: (SetO b18 (1 + q6) L9) :: (RowE (α := Ev) own 36 v53 (rdyO (1 + q6) L9 ((sortE (ownL l l.length)).filter (fun x => !hadE L9 x)))) :: Rs) w69 := hk64 _ _ hS70
     have hr72 : InR (((rdyO (1 + q6) L9 ((sortE (ownL l l.length)).filter (fun x => !hadE L9 x))).length + ((rdyB (1 + q6) L9 ((sortE (ownL l l.length)).filter (fun x => !hadE L9 x))).length) : Nat) : Int) := by first | omega | (simp only [lens]; omega)
     refine st (ov_add (r := (((rdyO (1 + q6) L9 ((sortE (ownL l l.length)).filter (fun x => !hadE L9 x))).length + ((rdyB (1 + q6) L9 ((sortE (ownL l l.length)).filter (fun x => !hadE L9 x))).length) : Nat) : Int)) (k := .i64) (a := (((rdyO (1 + q6) L9 ((sortE (ownL l l.length)).filter (fun x => !hadE L9 x))).length : Nat) : Int)) (b := (((rdyB (1 + q6) L9 ((sortE (ownL l l.length)).filter (fun x => !hadE L9 x))).length : Nat) : Int)) rfl rfl (by rw [show ((((rdyO (1 + q6) L9 ((sortE (ownL l l.length)).filter (fun x => !hadE L9 x))).length : Nat) : Int) + (((rdyB (1 + q6) L9 ((sortE (ownL l l.length)).filter (fun x => !hadE L9 x))).length : Nat) : Int) : Int) = (((rdyO (1 + q6) L9 ((sortE (ownL l l.length)).filter (fun x => !hadE L9 x))).length + ((rdyB (1 + q6) L9 ((sortE (ownL l l.length)).filter (fun x => !hadE L9 x))).length) : Nat) : Int) by first | omega | (simp only [lens]; omega)]; exact wrap_in hr72) ?_)
     refine st (ov_move (v := .int .i64 ((((ownL l l.length).filter (hadE L9)).length : Nat) : Int)) rfl ?_)
     have hr73 : InR (((rdyO (1 + q6) L9 ((sortE (ownL l l.length)).filter (fun x => !hadE L9 x))).length + ((rdyB (1 + q6) L9 ((sortE (ownL l l.length)).filter (fun x => !hadE L9 x))).length) + (((ownL l l.length).filter (hadE L9)).length) : Nat) : Int) := by first | omega | (simp only [lens]; omega)
     refine st (ov_add (r := (((rdyO (1 + q6) L9 ((sortE (ownL l l.length)).filter (fun x => !hadE L9 x))).length + ((rdyB (1 + q6) L9 ((sortE (ownL l l.length)).filter (fun x => !hadE L9 x))).length) + (((ownL l l.length).filter (hadE L9)).length) : Nat) : Int)) (k := .i64) (a := (((rdyO (1 + q6) L9 ((sortE (ownL l l.length)).filter (fun x => !hadE L9 x))).length + ((rdyB (1 + q6) L9 ((sortE (ownL l l.length)).filter (fun x => !hadE L9 x))).length) : Nat) : Int)) (b := ((((ownL l l.length).filter (hadE L9)).length : Nat) : Int)) rfl rfl (by rw [show ((((rdyO (1 + q6) L9 ((sortE (ownL l l.length)).filter (fun x => !hadE L9 x))).length + ((rdyB (1 + q6) L9 ((sortE (ownL l l.length)).filter (fun x => !hadE L9 x))).length) : Nat) : Int) + ((((ownL l l.length).filter (hadE L9)).length : Nat) : Int) : Int) = (((rdyO (1 + q6) L9 ((sortE (ownL l l.length)).filter (fun x => !hadE L9 x))).length + ((rdyB (1 + q6) L9 ((sortE (ownL l l.length)).filter (fun x => !hadE L9 x))).length) + (((ownL l l.length).filter (hadE L9)).length) : Nat) : Int) by first | omega | (simp only [lens]; omega)]; exact wrap_in hr73) ?_)
     refine st (ov_move (v := .int .i64 (((ownL l l.length).length : Nat) : Int)) rfl ?_)
     refine st (ov_neq (k := .i64) (a := (((rdyO (1 + q6) L9 ((sortE (ownL l l.length)).filter (fun x => !hadE L9 x))).length + ((rdyB (1 + q6) L9 ((sortE (ownL l l.length)).filter (fun x => !hadE L9 x))).length) + (((ownL l l.length).filter (hadE L9)).length) : Nat) : Int)) (b := (((ownL l l.length).length : Nat) : Int)) rfl rfl ?_)
     have hkn74 : (!decide ((((rdyO (1 + q6) L9 ((sortE (ownL l l.length)).filter (fun x => !hadE L9 x))).length + ((rdyB (1 + q6) L9 ((sortE (ownL l l.length)).filter (fun x => !hadE L9 x))).length) + (((ownL l l.length).filter (hadE L9)).length) : Nat) : Int) = (((ownL l l.length).length : Nat) : Int))) = false := (by rw [Bool.not_eq_false', decide_eq_true_eq]; omega)
     rw [hkn74]
     refine st_nil ?_
     refine WP_cond_f rfl ?_
     refine WP_skip ?_
     refine WP_seq ?_
     refine WP_seq ?_
     obtain ⟨O9, hO9⟩ : ∃ O9, rdyO (1 + q6) L9 ((sortE (ownL l l.length)).filter (fun x => !hadE L9 x)) = O9 := ⟨_, rfl⟩
     obtain ⟨B8, hB8⟩ : ∃ B8, rdyB (1 + q6) L9 ((sortE (ownL l l.length)).filter (fun x => !hadE L9 x)) = B8 := ⟨_, rfl⟩
     rw [hO9] at hct9 hch9 hpm9 hra9 hrb9 hrc9
     rw [hB8] at hct9 hpm9 hra9 hrb9 hrc9
     rw [hO9] at hS71
     have hS75 : Sep G W ((BufO b21 (max 0 (min 256 256)) (rdyB (1 + q6) L9 ((sortE (ownL l l.length)).filter (fun x => !hadE L9 x)))) :: (SetO b18 (1 + q6) L9) :: (RowE (α := Ev) own 36 v53 O9) :: Rs) w69 := hS71
     have hr76 := hS75.row (i := 2) rfl
     have hr76s : O9.length * 96 ≤ 140737488355328 := hr76.2
     rw [hB8] at hS75
     have hS77 : Sep G W ((BufO b21 (max 0 (min 256 256)) B8) :: (SetO b18 (1 + q6) L9) :: (RowE (α := Ev) own 36 v53 O9) :: Rs) w69 := hS75
     refine WP_region0 (by kernel_rfl) (fun _ => ?_)
     refine st (ov_assign (v := .int .i64 (0)) rfl ?_)
     refine st_nil ?_
     refine WP_block ?_
     have hS78 : Sep G W ((RowE (α := Ev) own 36 v53 O9) :: (BufO b21 (max 0 (min 256 256)) B8) :: (SetO b18 (1 + q6) L9) :: Rs) w69 := hS77.sel 3 [2, 0, 1] (Nat.le_add_left _ _) rfl rfl
     obtain ⟨G79, hA81, hB82, hS83, hk84⟩ := hS78.lend
     have hrd85 := RowE.rd hA81
     have hrd85s : O9.length * 96 ≤ 140737488355328 := hrd85.small
     refine WP_loop (fun mq σ wq => ∃ (k : Nat) (ρ : Env), mq = O9.length - k ∧ σ = setAll ρ [(7, .pointer (some ⟨b18, 0, none⟩)), (8, .pointer (some ⟨b21, 0, none⟩)), (16, v53), (17, .int .i64 ((k : Nat) : Int))] ∧ (k ≤ O9.length) ∧ Sep G79 w69 ((BufO b21 (max 0 (min 256 256)) B8) :: (SetO b18 (1 + q6) ((O9.take k).foldl (addL (1 + q6)) L9)) :: Rs) wq) ⟨0, _, rfl, setAll_self ⟨rfl, rfl, rfl, rfl, trivial⟩, Nat.zero_le _, hS83⟩ ?_
     rintro m87 σ88 w86 ⟨k, ρl4, rfl, rfl, hkk, hS89⟩
     refine WP_seq ?_
     refine WP_seq ?_
     refine WP_region0 (by kernel_rfl) (fun _ => ?_)
     refine st (ov_move (v := .int .i64 ((k : Nat) : Int)) rfl ?_)
     refine st (ov_move (v := v53) rfl ?_)
     refine st (ov_len (n := O9.length) Try.underlying22 rfl hrd85.sl ?_)
     refine st (ov_lss (k := .i64) (a := ((k : Nat) : Int)) (b := ((O9.length : Nat) : Int)) rfl rfl ?_)
     refine st_nil ?_
     cases hc90 : decide (((k : Nat) : Int) < ((O9.length : Nat) : Int))
     ·skip
      have hc90r := hc90
      have hc90 := of_decide_eq_false hc90
      refine WP_cond_f rfl ?_
      refine WP_exit ?_
      refine blk_exit ?_
      refine WP_seq ?_
      have hS91 : Sep G W ((RowE (α := Ev) own 36 v53 O9) :: (BufO b21 (max 0 (min 256 256)) B8) :: (SetO b18 (1 + q6) ((O9.take k).foldl (addL (1 + q6)) L9)) :: Rs) w86 := hk84 _ _ hS89
      obtain rfl : k = O9.length := by omega
      have htl9 : O9.take O9.length = O9 := List.take_length
      rw [htl9] at hS91
      have hS92 : Sep G W ((RowE (α := Ev) own 36 v53 O9) :: (BufO b21 (max 0 (min 256 256)) B8) :: (SetO b18 (1 + q6) (O9.foldl (addL (1 + q6)) L9)) :: Rs) w86 := hS91
      have hfl9 := foldl_len (n := (1 + q6)) (l := O9) (L := L9)
      have hz9 : rdyO (1 + q6) (O9.foldl (addL (1 + q6)) L9) (B8.filter (fun x => !hadE (O9.foldl (addL (1 + q6)) L9) x)) = [] := by rw [hra9]; exact hrb9
      have hy9 : rdyB (1 + q6) (O9.foldl (addL (1 + q6)) L9) (B8.filter (fun x => !hadE (O9.foldl (addL (1 + q6)) L9) x)) = B8 := by rw [hra9]; exact hrc9
      refine WP_region0 (by kernel_rfl) (fun _ => ?_)
      refine st (ov_move (v := .pointer (some ⟨b21, 0, none⟩)) rfl ?_)
      have hS93 : Sep G W ((BufO b21 (max 0 (min 256 256)) B8) :: (RowE (α := Ev) own 36 v53 O9) :: (SetO b18 (1 + q6) (O9.foldl (addL (1 + q6)) L9)) :: Rs) w86 := hS92.sel 3 [1, 0, 2] (Nat.le_add_left _ _) rfl rfl
      obtain ⟨G94, hA96, hB97, hS98, hk99⟩ := hS93.lend
      obtain ⟨vl100, hb101, hl102⟩ := BufO.sh hA96
      have hsm103 : B8.length * 96 ≤ 140737488355328 := hl102.small
      refine st (ov_call (f := 18) (vals := [.pointer (some ⟨b21, 0, none⟩)]) (cap := []) (show _ = (.func (.func 18) #[] #[] : Value) from rfl) rfl Try.call18 (D_bLen  hA96 hS98) ?_)
      rintro _ w104 ⟨rfl, hS105⟩
      have hS106 : Sep G W ((BufO b21 (max 0 (min 256 256)) B8) :: (RowE (α := Ev) own 36 v53 O9) :: (SetO b18 (1 + q6) (O9.foldl (addL (1 + q6)) L9)) :: Rs) w104 := hk99 _ _ hS105
      refine st (ov_assign (v := .int .i64 ((B8.length : Nat) : Int)) rfl ?_)
      refine st_nil ?_
      refine WP_seq ?_
      refine WP_region (by kernel_rfl) ?_
      refine st (ov_move (v := .pointer (some ⟨b21, 0, none⟩)) rfl ?_)
      refine st (ov_move (v := .pointer (some ⟨b18, 0, none⟩)) rfl ?_)
      have hS107 : Sep G W ((SetO b18 (1 + q6) (O9.foldl (addL (1 + q6)) L9)) :: (BufO b21 (max 0 (min 256 256)) B8) :: (RowE (α := Ev) own 36 v53 O9) :: Rs) w104 := hS106.sel 3 [2, 0, 1] (Nat.le_add_left _ _) rfl rfl
      obtain ⟨G108, hA110, hB111, hS112, hk113⟩ := hS107.lend
      obtain ⟨vv114, m115, R116, hb117, hv118, hr119⟩ := SetO.sh hA110
      have hsm120 : (vecE (1 + q6) (O9.foldl (addL (1 + q6)) L9)).length * 8 ≤ 140737488355328 := hv118.small
      refine st (ov_call (f := 17) (vals := [.pointer (some ⟨b21, 0, none⟩), .pointer (some ⟨b18, 0, none⟩)]) (cap := []) (show _ = (.func (.func 17) #[] #[] : Value) from rfl) rfl Try.call17 (D_Ready  hA110 hS112 ((by decide)) (by first | exact hG9 | exact foldl_good hG9) (by omega) (by omega)) ?_)
      rintro v121 w122 ⟨_, rfl, hS123⟩
      have hr124 := hS123.row (i := 0) rfl
      have hr124s : (rdyO (1 + q6) (O9.foldl (addL (1 + q6)) L9) (B8.filter (fun x => !hadE (O9.foldl (addL (1 + q6)) L9) x))).length * 96 ≤ 140737488355328 := hr124.2
      have hS125 : Sep G W ((SetO b18 (1 + q6) (O9.foldl (addL (1 + q6)) L9)) :: (RowE (α := Ev) own 36 v121 (rdyO (1 + q6) (O9.foldl (addL (1 + q6)) L9) (B8.filter (fun x => !hadE (O9.foldl (addL (1 + q6)) L9) x)))) :: (BufO b21 (max 0 (min 256 256)) (rdyB (1 + q6) (O9.foldl (addL (1 + q6)) L9) (B8.filter (fun x => !hadE (O9.foldl (addL (1 + q6)) L9) x)))) :: (RowE (α := Ev) own 36 v53 O9) :: Rs) w122 := hk113 _ _ hS123
      rw [hz9] at hS125
      have hS126 : Sep G W ((SetO b18 (1 + q6) (O9.foldl (addL (1 + q6)) L9)) :: (RowE (α := Ev) own 36 v121 ([] : List Ev)) :: (BufO b21 (max 0 (min 256 256)) (rdyB (1 + q6) (O9.foldl (addL (1 + q6)) L9) (B8.filter (fun x => !hadE (O9.foldl (addL (1 + q6)) L9) x)))) :: (RowE (α := Ev) own 36 v53 O9) :: Rs) w122 := hS125
      have hr127 := hS126.row (i := 1) rfl
      have hr127s : ([] : List Ev).length * 96 ≤ 140737488355328 := hr127.2
      rw [hy9] at hS126
      have hS128 : Sep G W ((SetO b18 (1 + q6) (O9.foldl (addL (1 + q6)) L9)) :: (RowE (α := Ev) own 36 v121 ([] : List Ev)) :: (BufO b21 (max 0 (min 256 256)) B8) :: (RowE (α := Ev) own 36 v53 O9) :: Rs) w122 := hS126
      refine st (ov_len (n := ([] : List Ev).length) Try.underlying22 rfl hr127.1 ?_)
      refine st (ov_eql (k := .i64) (a := ((([] : List Ev).length : Nat) : Int)) (b := 0) rfl rfl ?_)
      have hkn129 : (decide (((([] : List Ev).length : Nat) : Int) = 0)) = true := (by decide)
      rw [hkn129]
      refine st (ov_move (v := .bool true) rfl ?_)
      refine sty rfl rfl (ov_move (v := .pointer (some ⟨b21, 0, none⟩)) rfl ?_)
      have hS130 : Sep G W ((BufO b21 (max 0 (min 256 256)) B8) :: (SetO b18 (1 + q6) (O9.foldl (addL (1 + q6)) L9)) :: (RowE (α := Ev) own 36 v121 ([] : List Ev)) :: (RowE (α := Ev) own 36 v53 O9) :: Rs) w122 := hS128.sel 4 [2, 0, 1, 3] (Nat.le_add_left _ _) rfl rfl
      obtain ⟨G131, hA133, hB134, hS135, hk136⟩ := hS130.lend
      obtain ⟨vl137, hb138, hl139⟩ := BufO.sh hA133
      have hsm140 : B8.length * 96 ≤ 140737488355328 := hl139.small
      refine sty rfl rfl (ov_call (f := 18) (vals := [.pointer (some ⟨b21, 0, none⟩)]) (cap := []) (show _ = (.func (.func 18) #[] #[] : Value) from rfl) rfl Try.call18 (D_bLen  hA133 hS135) ?_)
      rintro _ w141 ⟨rfl, hS142⟩
      have hS143 : Sep G W ((BufO b21 (max 0 (min 256 256)) B8) :: (SetO b18 (1 + q6) (O9.foldl (addL (1 + q6)) L9)) :: (RowE (α := Ev) own 36 v121 ([] : List Ev)) :: (RowE (α := Ev) own 36 v53 O9) :: Rs) w141 := hk136 _ _ hS142
      refine sty rfl rfl (ov_move (v := .int .i64 ((B8.length : Nat) : Int)) rfl ?_)
      refine sty rfl rfl (ov_eql (k := .i64) (a := ((B8.length : Nat) : Int)) (b := ((B8.length : Nat) : Int)) rfl rfl ?_)
      have hkn144 : (decide (((B8.length : Nat) : Int) = ((B8.length : Nat) : Int))) = true := decide_eq_true rfl
      rw [hkn144]
      refine st (ov_pick_t (v := .bool true) rfl rfl ?_)
      refine st (ov_move (v := .bool true) rfl ?_)
      refine sty rfl rfl (ov_call (f := 9) (vals := []) (cap := []) (show _ = (.func (.func 9) #[] #[] : Value) from rfl) rfl Try.call9 (D_known25  hS143) ?_)
      rintro _ w145 ⟨rfl, hS146⟩
      refine st (ov_pick_t (v := .bool true) rfl rfl ?_)
      refine st (ov_assign (v := .bool true) rfl ?_)
      refine st_nil ?_
      refine WP_ret ?_
      refine fin1 Try.results3 (show _ = (.bool true : Value) from rfl) ?_
      have hS147 : Sep G W Rs w145 := hS146.sel 4 [] (Nat.le_add_left _ _) rfl rfl
      refine ⟨rfl, hS147⟩
     ·skip
      have hc90r := hc90
      have hc90 := of_decide_eq_true hc90
      refine WP_cond_t rfl ?_
      refine WP_skip ?_
      refine WP_seq ?_
      refine WP_block ?_
      refine WP_seq ?_
      refine WP_region0 (by kernel_rfl) (fun _ => ?_)
      refine st (ov_move (v := .pointer (some ⟨b18, 0, none⟩)) rfl ?_)
      refine st (ov_move (v := v53) rfl ?_)
      refine st (ov_move (v := .int .i64 ((k : Nat) : Int)) rfl ?_)
      have hi148 : k < O9.length := (by first | omega | (simp only [lens]; omega))
      refine st (ov_indexAddrN (k := 10) (i := k) Try.underlying22 Try.sizeOf36 rfl hrd85.sl rfl hi148 ?_)
      have hi150 : k < O9.length := (by first | omega | (simp only [lens]; omega))
      obtain ⟨hce149, hde149_0, hoke149⟩ := hrd85.ev hi150
      rw [← getD_at default hi150] at hce149 hde149_0 hoke149
      have hsm151 : ((O9.getD k default).deps).length * 8 ≤ 140737488355328 := hde149_0.small
      have hcw152 := hS89.cells hce149 (hrd85.foot (ne_of_lt hi150))
      refine st (ov_loadk (k := 10) Try.isAgg36 Try.sizeOf36 rfl rfl hcw152 ?_)
      have hS153 : Sep G79 w69 ((SetO b18 (1 + q6) ((O9.take k).foldl (addL (1 + q6)) L9)) :: (BufO b21 (max 0 (min 256 256)) B8) :: Rs) w86 := hS89.sel 2 [1, 0] (Nat.le_add_left _ _) rfl rfl
      refine st (ov_call (f := 13) (vals := [.pointer (some ⟨b18, 0, none⟩), .agg ((O9.getD k default).cells (cellV w69 (sb v53) (so v53 + k * 10 + 3))).toArray]) (cap := []) (show _ = (.func (.func 13) #[] #[] : Value) from rfl) rfl Try.call13 (D_AddT (e := (O9.getD k default)) hde149_0 hoke149 hS153 (by first | exact Nat.le_trans laid_take (by omega) | exact Nat.le_trans fold_len (by omega)) (by first | exact laidL_good.len | exact (foldl_good hG9).len)) ?_)
      rintro _ w154 ⟨rfl, hS155⟩
      refine st (ov_neq (k := .i64) (a := (addE (1 + q6) ((O9.take k).foldl (addL (1 + q6)) L9) (O9.getD k default))) (b := 0) rfl rfl ?_)
      have hkn156 : (!decide ((addE (1 + q6) ((O9.take k).foldl (addL (1 + q6)) L9) (O9.getD k default)) = 0)) = false := (by rw [chain_at hch9 (by omega)]; rfl)
      rw [hkn156]
      refine st_nil ?_
      refine WP_cond_f rfl ?_
      refine WP_skip ?_
      refine WP_region0 (by kernel_rfl) (fun _ => ?_)
      refine st (ov_move (v := .int .i64 ((k : Nat) : Int)) rfl ?_)
      have hr157 : InR ((k + 1 : Nat) : Int) := by first | omega | (simp only [lens]; omega)
      refine st (ov_add (r := ((k + 1 : Nat) : Int)) (k := .i64) (a := ((k : Nat) : Int)) (b := 1) rfl rfl (by rw [show (((k : Nat) : Int) + 1 : Int) = ((k + 1 : Nat) : Int) by first | omega | (simp only [lens]; omega)]; exact wrap_in hr157) ?_)
      refine st (ov_assign (v := .int .i64 ((k + 1 : Nat) : Int)) rfl ?_)
      refine st_nil ?_
      have hS158 : Sep G79 w69 ((BufO b21 (max 0 (min 256 256)) B8) :: (SetO b18 (1 + q6) (addL (1 + q6) ((O9.take k).foldl (addL (1 + q6)) L9) (O9.getD k default))) :: Rs) w154 := hS155.sel 2 [1, 0] (Nat.le_add_left _ _) rfl rfl
      have hL159 : ((O9.take (k + 1)).foldl (addL (1 + q6)) L9) = (addL (1 + q6) ((O9.take k).foldl (addL (1 + q6)) L9) (O9.getD k default)) := (fold_snoc (by omega))
      rw [← hL159] at hS158
      exact ⟨_, by omega, k + 1, _, rfl, setAll_self ⟨rfl, rfl, rfl, rfl, trivial⟩, by omega, hS158⟩
    ·skip
     have hc38r := hc38
     have hc38 := of_decide_eq_true hc38
     refine WP_cond_t rfl ?_
     refine WP_skip ?_
     refine WP_seq ?_
     refine WP_block ?_
     refine WP_seq ?_
     refine WP_region0 (by kernel_rfl) (fun _ => ?_)
     refine st (ov_move (v := .pointer (some ⟨b18, 0, none⟩)) rfl ?_)
     refine st (ov_move (v := vl) rfl ?_)
     refine st (ov_move (v := .int .i64 ((k : Nat) : Int)) rfl ?_)
     have hi160 : k < l.length := (by first | omega | (simp only [lens]; omega))
     refine st (ov_indexAddrN (k := 10) (i := k) Try.underlying22 Try.sizeOf36 rfl hl.sl rfl hi160 ?_)
     refine st (fd36_0 rfl ?_)
     have hi162 : k < l.length := (by first | omega | (simp only [lens]; omega))
     obtain ⟨hce161, hde161_0, hoke161⟩ := hl.ev hi162
     rw [← getD_at default hi162] at hce161 hde161_0 hoke161
     have hsm163 : ((l.getD k default).deps).length * 8 ≤ 140737488355328 := hde161_0.small
     have hcw164 := hS37.cells hce161 (hl.foot (ne_of_lt hi162))
     refine st (ov_loadk (k := 2) (cs := [.int .i64 ((l.getD k default).origin), .int .i64 ((l.getD k default).seq)]) Try.isAgg33 Try.sizeOf33 rfl rfl (CellsAt.sub hcw164 0 (cs2 := [.int .i64 ((l.getD k default).origin), .int .i64 ((l.getD k default).seq)]) rfl) ?_)
     have hS165 : Sep G W ((SetO b18 (1 + q6) L9) :: (BufO b21 (max 0 (min 256 256)) (sortE (ownL l l.length))) :: Rs) w34 := hS37.sel 2 [1, 0] (Nat.le_add_left _ _) rfl rfl
     obtain ⟨G166, hA168, hB169, hS170, hk171⟩ := hS165.lend
     obtain ⟨vv172, m173, R174, hb175, hv176, hr177⟩ := SetO.sh hA168
     have hsm178 : (vecE (1 + q6) L9).length * 8 ≤ 140737488355328 := hv176.small
     refine st (ov_call (f := 15) (vals := [.pointer (some ⟨b18, 0, none⟩), .agg #[.int .i64 ((l.getD k default).origin), .int .i64 ((l.getD k default).seq)]]) (cap := []) (show _ = (.func (.func 15) #[] #[] : Value) from rfl) rfl Try.call15 (D_Get  hA168 hoke161.origin hoke161.seq hS170) ?_)
     rintro _ w181 ⟨v179, rfl, hgo180, hS182⟩
     have hr183 := hS182.row (i := 0) rfl
     have hr183s : (((getE L9 (((l.getD k default).origin), ((l.getD k default).seq))).getD default).deps).length * 8 ≤ 140737488355328 := hr183.2
     have hS184 : Sep G W ((SetO b18 (1 + q6) L9) :: (RowE (α := Int) own 3 v179 (((getE L9 (((l.getD k default).origin), ((l.getD k default).seq))).getD default).deps)) :: (BufO b21 (max 0 (min 256 256)) (sortE (ownL l l.length))) :: Rs) w181 := hk171 _ _ hS182
     refine st (ov_move (v := .tuple #[.agg (((getE L9 (((l.getD k default).origin), ((l.getD k default).seq))).getD default).cells v179).toArray, .bool (getE L9 (((l.getD k default).origin), ((l.getD k default).seq))).isSome]) rfl ?_)
     refine st (ov_extract (vs := [.agg (((getE L9 (((l.getD k default).origin), ((l.getD k default).seq))).getD default).cells v179).toArray, .bool ((getE L9 (((l.getD k default).origin), ((l.getD k default).seq))).isSome)]) (i := 0) (v := .agg (((getE L9 (((l.getD k default).origin), ((l.getD k default).seq))).getD default).cells v179).toArray) rfl rfl ?_)
     refine st (ov_extract (vs := [.agg (((getE L9 (((l.getD k default).origin), ((l.getD k default).seq))).getD default).cells v179).toArray, .bool ((getE L9 (((l.getD k default).origin), ((l.getD k default).seq))).isSome)]) (i := 1) (v := .bool ((getE L9 (((l.getD k default).origin), ((l.getD k default).seq))).isSome)) rfl rfl ?_)
     refine st (ov_alloc Try.zeroValue36 ?_)
     intro w187 b186 hn185
     have hS188 : Sep G W ((Blk b186 #[.int .i64 (0), .int .i64 (0), .int .i64 (0), (.slice none 0 0), .int .i64 (0), .int .i64 (0), .int .i64 (0), .int .i64 (0), .int .i64 (0), .int .i64 (0)] 36) :: (SetO b18 (1 + q6) L9) :: (RowE (α := Int) own 3 v179 (((getE L9 (((l.getD k default).origin), ((l.getD k default).seq))).getD default).deps)) :: (BufO b21 (max 0 (min 256 256)) (sortE (ownL l l.length))) :: Rs) w187 := hS184.new hn185
     refine stn (ov_store (v := .agg (((getE L9 (((l.getD k default).origin), ((l.getD k default).seq))).getD default).cells v179).toArray) (c' := (((getE L9 (((l.getD k default).origin), ((l.getD k default).seq))).getD default).cells v179).toArray) Try.sizeOf36 rfl rfl (hS188.blk (i := 0) rfl) (all1 ⟨rfl, rfl, rfl, hr183.1.one, rfl, rfl, rfl, rfl, rfl, rfl, trivial⟩) (Nat.le_of_ble_eq_true rfl) rfl ?_)
     intro w189 hp190
     have hS191 : Sep G W ((Blk b186 (((getE L9 (((l.getD k default).origin), ((l.getD k default).seq))).getD default).cells v179).toArray 36) :: (SetO b18 (1 + q6) L9) :: (RowE (α := Int) own 3 v179 (((getE L9 (((l.getD k default).origin), ((l.getD k default).seq))).getD default).deps)) :: (BufO b21 (max 0 (min 256 256)) (sortE (ownL l l.length))) :: Rs) w189 := hS188.put (i := 0) rfl hp190
     refine st (ov_assign (v := .bool ((getE L9 (((l.getD k default).origin), ((l.getD k default).seq))).isSome)) rfl ?_)
     refine st_nil ?_
     refine WP_seq ?_
     refine WP_region (by kernel_rfl) ?_
     refine st (ov_move (v := .bool ((getE L9 (((l.getD k default).origin), ((l.getD k default).seq))).isSome)) rfl ?_)
     refine st (ov_move (v := .bool ((getE L9 (((l.getD k default).origin), ((l.getD k default).seq))).isSome)) rfl ?_)
     refine stc (V := vl) rfl rfl (fun hb192 => ?_) ?_
     ·have hl193 := hb192
      exact ov_move (v := vl) rfl ⟨rfl, rfl⟩
     refine stc (V := .int .i64 ((k : Nat) : Int)) rfl rfl (fun hb194 => ?_) ?_
     ·have hl195 := hb194
      exact ov_move (v := .int .i64 ((k : Nat) : Int)) rfl ⟨rfl, rfl⟩
     cases hg196 : (getE L9 (((l.getD k default).origin), ((l.getD k default).seq))).isSome
     ·skip
      have hg196r := hg196
      refine stx rfl rfl ?_
      refine stx rfl rfl ?_
      refine st (ov_pick_f (v := .bool false) rfl rfl ?_)
      refine st_nil ?_
      refine WP_cond_f rfl ?_
      refine WP_skip ?_
      refine WP_region0 (by kernel_rfl) (fun _ => ?_)
      refine st (ov_move (v := .int .i64 ((k : Nat) : Int)) rfl ?_)
      have hr197 : InR ((k + 1 : Nat) : Int) := by first | omega | (simp only [lens]; omega)
      refine st (ov_add (r := ((k + 1 : Nat) : Int)) (k := .i64) (a := ((k : Nat) : Int)) (b := 1) rfl rfl (by rw [show (((k : Nat) : Int) + 1 : Int) = ((k + 1 : Nat) : Int) by first | omega | (simp only [lens]; omega)]; exact wrap_in hr197) ?_)
      refine st (ov_assign (v := .int .i64 ((k + 1 : Nat) : Int)) rfl ?_)
      refine st_nil ?_
      have hS198 : Sep G W ((BufO b21 (max 0 (min 256 256)) (sortE (ownL l l.length))) :: (SetO b18 (1 + q6) L9) :: Rs) w189 := hS191.sel 4 [3, 1] (Nat.le_add_left _ _) rfl rfl
      have hol9 := hadc_no (l := l) (k := k) (L := L9) (by first | exact .inl hg196 | exact .inr (by simpa using hg196r))
      exact ⟨_, by omega, k + 1, _, rfl, setAll_self ⟨rfl, rfl, rfl, rfl, (show (.int .i64 ((((ownL l k).filter (hadE L9)).length : Nat) : Int) : Value) = (.int .i64 ((((ownL l (k + 1)).filter (hadE L9)).length : Nat) : Int) : Value) from congrArg (Value.int .i64) (by omega)), rfl, trivial⟩, by omega, hS198⟩
     ·skip
      have hg196r := hg196
      refine sty rfl rfl (ov_call (f := 16) (vals := [vl, .int .i64 ((k : Nat) : Int)]) (cap := []) (show _ = (.func (.func 16) #[] #[] : Value) from rfl) rfl Try.call16 (D_before (l := l) (vl := vl) (i := k) hl (by first | omega | (refine ⟨?_, ?_⟩ <;> omega)) hS191) ?_)
      rintro _ w199 ⟨rfl, hS200⟩
      refine sty rfl rfl (ov_not (a := (befE l k)) rfl ?_)
      refine st (ov_pick_t (v := .bool (!(befE l k))) rfl rfl ?_)
      refine st_nil ?_
      cases hc201 : !(befE l k)
      ·skip
       have hc201r := hc201
       try simp only [bools] at hc201
       refine WP_cond_f rfl ?_
       refine WP_skip ?_
       refine WP_region0 (by kernel_rfl) (fun _ => ?_)
       refine st (ov_move (v := .int .i64 ((k : Nat) : Int)) rfl ?_)
       have hr202 : InR ((k + 1 : Nat) : Int) := by first | omega | (simp only [lens]; omega)
       refine st (ov_add (r := ((k + 1 : Nat) : Int)) (k := .i64) (a := ((k : Nat) : Int)) (b := 1) rfl rfl (by rw [show (((k : Nat) : Int) + 1 : Int) = ((k + 1 : Nat) : Int) by first | omega | (simp only [lens]; omega)]; exact wrap_in hr202) ?_)
       refine st (ov_assign (v := .int .i64 ((k + 1 : Nat) : Int)) rfl ?_)
       refine st_nil ?_
       have hS203 : Sep G W ((BufO b21 (max 0 (min 256 256)) (sortE (ownL l l.length))) :: (SetO b18 (1 + q6) L9) :: Rs) w199 := hS200.sel 4 [3, 1] (Nat.le_add_left _ _) rfl rfl
       have hol9 := hadc_no (l := l) (k := k) (L := L9) (by first | exact .inl hc201 | exact .inr (by simpa using hc201r))
       exact ⟨_, by omega, k + 1, _, rfl, setAll_self ⟨rfl, rfl, rfl, rfl, (show (.int .i64 ((((ownL l k).filter (hadE L9)).length : Nat) : Int) : Value) = (.int .i64 ((((ownL l (k + 1)).filter (hadE L9)).length : Nat) : Int) : Value) from congrArg (Value.int .i64) (by omega)), rfl, trivial⟩, by omega, hS203⟩
      ·skip
       have hc201r := hc201
       try simp only [bools] at hc201
       refine WP_cond_t rfl ?_
       refine WP_region0 (by kernel_rfl) (fun _ => ?_)
       refine st (ov_move (v := .int .i64 ((((ownL l k).filter (hadE L9)).length : Nat) : Int)) rfl ?_)
       have hr204 : InR ((((ownL l k).filter (hadE L9)).length + 1 : Nat) : Int) := by first | omega | (simp only [lens]; omega)
       refine st (ov_add (r := ((((ownL l k).filter (hadE L9)).length + 1 : Nat) : Int)) (k := .i64) (a := ((((ownL l k).filter (hadE L9)).length : Nat) : Int)) (b := 1) rfl rfl (by rw [show (((((ownL l k).filter (hadE L9)).length : Nat) : Int) + 1 : Int) = ((((ownL l k).filter (hadE L9)).length + 1 : Nat) : Int) by first | omega | (simp only [lens]; omega)]; exact wrap_in hr204) ?_)
       refine st (ov_assign (v := .int .i64 ((((ownL l k).filter (hadE L9)).length + 1 : Nat) : Int)) rfl ?_)
       refine st_nil ?_
       refine WP_region0 (by kernel_rfl) (fun _ => ?_)
       refine st (ov_move (v := .int .i64 ((k : Nat) : Int)) rfl ?_)
       have hr205 : InR ((k + 1 : Nat) : Int) := by first | omega | (simp only [lens]; omega)
       refine st (ov_add (r := ((k + 1 : Nat) : Int)) (k := .i64) (a := ((k : Nat) : Int)) (b := 1) rfl rfl (by rw [show (((k : Nat) : Int) + 1 : Int) = ((k + 1 : Nat) : Int) by first | omega | (simp only [lens]; omega)]; exact wrap_in hr205) ?_)
       refine st (ov_assign (v := .int .i64 ((k + 1 : Nat) : Int)) rfl ?_)
       refine st_nil ?_
       have hS206 : Sep G W ((BufO b21 (max 0 (min 256 256)) (sortE (ownL l l.length))) :: (SetO b18 (1 + q6) L9) :: Rs) w199 := hS200.sel 4 [3, 1] (Nat.le_add_left _ _) rfl rfl
       have hol9 := hadc_yes (l := l) (k := k) (L := L9) hg196 (by simpa using hc201r)
       exact ⟨_, by omega, k + 1, _, rfl, setAll_self ⟨rfl, rfl, rfl, rfl, (show (.int .i64 ((((ownL l k).filter (hadE L9)).length + 1 : Nat) : Int) : Value) = (.int .i64 ((((ownL l (k + 1)).filter (hadE L9)).length : Nat) : Int) : Value) from congrArg (Value.int .i64) (by omega)), rfl, trivial⟩, by omega, hS206⟩
   ·skip
    have hc33r := hc33
    have hc33 := of_decide_eq_true hc33
    refine WP_cond_t rfl ?_
    refine WP_skip ?_
    refine WP_seq ?_
    refine WP_block ?_
    refine WP_seq ?_
    obtain ⟨hkb9, hkl9⟩ := keep_step (m := (max 0 (min 256 256))) (l := l) (k := k) (by omega) (by omega)
    refine WP_region0 (by kernel_rfl) (fun _ => ?_)
    refine st (ov_move (v := .pointer (some ⟨b21, 0, none⟩)) rfl ?_)
    refine st (ov_move (v := vl) rfl ?_)
    refine st (ov_move (v := .int .i64 ((k : Nat) : Int)) rfl ?_)
    have hi207 : k < l.length := (by first | omega | (simp only [lens]; omega))
    refine st (ov_indexAddrN (k := 10) (i := k) Try.underlying22 Try.sizeOf36 rfl hl.sl rfl hi207 ?_)
    have hi209 : k < l.length := (by first | omega | (simp only [lens]; omega))
    obtain ⟨hce208, hde208_0, hoke208⟩ := hl.ev hi209
    rw [← getD_at default hi209] at hce208 hde208_0 hoke208
    have hsm210 : ((l.getD k default).deps).length * 8 ≤ 140737488355328 := hde208_0.small
    have hcw211 := hS32.cells hce208 (hl.foot (ne_of_lt hi209))
    refine st (ov_loadk (k := 10) Try.isAgg36 Try.sizeOf36 rfl rfl hcw211 ?_)
    refine st (ov_call (f := 14) (vals := [.pointer (some ⟨b21, 0, none⟩), .agg ((l.getD k default).cells (cellV W (sb vl) (so vl + k * 10 + 3))).toArray]) (cap := []) (show _ = (.func (.func 14) #[] #[] : Value) from rfl) rfl Try.call14 (D_bAddL (e := (l.getD k default)) hde208_0 hoke208 hS32 ((by decide)) ((sortE_srt (own_ids (by omega)))) ((by rw [sort_len]; omega))) ?_)
    rintro _ w212 ⟨rfl, hS213⟩
    refine st_nil ?_
    cases hc214 : (bAddB (max 0 (min 256 256)) (sortE (ownL l k)) (l.getD k default))
    ·skip
     have hc214r := hc214
     refine WP_cond_f rfl ?_
     refine WP_skip ?_
     refine WP_region0 (by kernel_rfl) (fun _ => ?_)
     refine st (ov_move (v := .int .i64 ((k : Nat) : Int)) rfl ?_)
     have hr215 : InR ((k + 1 : Nat) : Int) := by first | omega | (simp only [lens]; omega)
     refine st (ov_add (r := ((k + 1 : Nat) : Int)) (k := .i64) (a := ((k : Nat) : Int)) (b := 1) rfl rfl (by rw [show (((k : Nat) : Int) + 1 : Int) = ((k + 1 : Nat) : Int) by first | omega | (simp only [lens]; omega)]; exact wrap_in hr215) ?_)
     refine st (ov_assign (v := .int .i64 ((k + 1 : Nat) : Int)) rfl ?_)
     refine st_nil ?_
     have hbf9 : befE l k = true := by have h9 := hc214r; rw [hkb9] at h9; simpa using h9
     have hol9 : (ownL l (k + 1)).length = (ownL l k).length := by rw [own_yes hbf9]
     have hL216 : (sortE (ownL l (k + 1))) = (bAddL (max 0 (min 256 256)) (sortE (ownL l k)) (l.getD k default)) := hkl9.symm
     rw [← hL216] at hS213
     exact ⟨_, by omega, k + 1, L9, _, rfl, setAll_self ⟨rfl, rfl, rfl, (show (.int .i64 (((ownL l k).length : Nat) : Int) : Value) = (.int .i64 (((ownL l (k + 1)).length : Nat) : Int) : Value) from congrArg (Value.int .i64) (by omega)), rfl, trivial⟩, by omega, hG9, hL9, hS213⟩
    ·skip
     have hc214r := hc214
     refine WP_cond_t rfl ?_
     refine WP_region0 (by kernel_rfl) (fun _ => ?_)
     refine st (ov_move (v := .int .i64 (((ownL l k).length : Nat) : Int)) rfl ?_)
     have hr217 : InR (((ownL l k).length + 1 : Nat) : Int) := by first | omega | (simp only [lens]; omega)
     refine st (ov_add (r := (((ownL l k).length + 1 : Nat) : Int)) (k := .i64) (a := (((ownL l k).length : Nat) : Int)) (b := 1) rfl rfl (by rw [show ((((ownL l k).length : Nat) : Int) + 1 : Int) = (((ownL l k).length + 1 : Nat) : Int) by first | omega | (simp only [lens]; omega)]; exact wrap_in hr217) ?_)
     refine st (ov_assign (v := .int .i64 (((ownL l k).length + 1 : Nat) : Int)) rfl ?_)
     refine st_nil ?_
     refine WP_region0 (by kernel_rfl) (fun _ => ?_)
     refine st (ov_move (v := .int .i64 ((k : Nat) : Int)) rfl ?_)
     have hr218 : InR ((k + 1 : Nat) : Int) := by first | omega | (simp only [lens]; omega)
     refine st (ov_add (r := ((k + 1 : Nat) : Int)) (k := .i64) (a := ((k : Nat) : Int)) (b := 1) rfl rfl (by rw [show (((k : Nat) : Int) + 1 : Int) = ((k + 1 : Nat) : Int) by first | omega | (simp only [lens]; omega)]; exact wrap_in hr218) ?_)
     refine st (ov_assign (v := .int .i64 ((k + 1 : Nat) : Int)) rfl ?_)
     refine st_nil ?_
     have hbf9 : befE l k = false := by have h9 := hc214r; rw [hkb9] at h9; simpa using h9
     have hol9 : (ownL l (k + 1)).length = (ownL l k).length + 1 := by rw [own_no hbf9, List.length_append]; rfl
     have hL219 : (sortE (ownL l (k + 1))) = (bAddL (max 0 (min 256 256)) (sortE (ownL l k)) (l.getD k default)) := hkl9.symm
     rw [← hL219] at hS213
     exact ⟨_, by omega, k + 1, L9, _, rfl, setAll_self ⟨rfl, rfl, rfl, (show (.int .i64 (((ownL l k).length + 1 : Nat) : Int) : Value) = (.int .i64 (((ownL l (k + 1)).length : Nat) : Int) : Value) from congrArg (Value.int .i64) (by omega)), rfl, trivial⟩, by omega, hG9, hL9, hS213⟩
  ·skip
   have hc28r := hc28
   have hc28 := of_decide_eq_true hc28
   refine WP_cond_t rfl ?_
   refine WP_skip ?_
   refine WP_seq ?_
   refine WP_block ?_
   refine WP_region0 (by kernel_rfl) (fun _ => ?_)
   refine st (ov_move (v := .pointer (some ⟨b18, 0, none⟩)) rfl ?_)
   refine st (ov_move (v := vl) rfl ?_)
   refine st (ov_move (v := .int .i64 ((k : Nat) : Int)) rfl ?_)
   have hi220 : k < l.length := (by first | omega | (simp only [lens]; omega))
   refine st (ov_indexAddrN (k := 10) (i := k) Try.underlying22 Try.sizeOf36 rfl hl.sl rfl hi220 ?_)
   have hi222 : k < l.length := (by first | omega | (simp only [lens]; omega))
   obtain ⟨hce221, hde221_0, hoke221⟩ := hl.ev hi222
   rw [← getD_at default hi222] at hce221 hde221_0 hoke221
   have hsm223 : ((l.getD k default).deps).length * 8 ≤ 140737488355328 := hde221_0.small
   have hcw224 := hS27.cells hce221 (hl.foot (ne_of_lt hi222))
   refine st (ov_loadk (k := 10) Try.isAgg36 Try.sizeOf36 rfl rfl hcw224 ?_)
   have hS225 : Sep G W ((SetO b18 (1 + q6) (laidL (1 + q6) (l.take k))) :: (BufO b21 (max 0 (min 256 256)) ([] : List Ev)) :: Rs) w24 := hS27.sel 2 [1, 0] (Nat.le_add_left _ _) rfl rfl
   refine st (ov_call (f := 13) (vals := [.pointer (some ⟨b18, 0, none⟩), .agg ((l.getD k default).cells (cellV W (sb vl) (so vl + k * 10 + 3))).toArray]) (cap := []) (show _ = (.func (.func 13) #[] #[] : Value) from rfl) rfl Try.call13 (D_AddT (e := (l.getD k default)) hde221_0 hoke221 hS225 (by first | exact Nat.le_trans laid_take (by omega) | exact Nat.le_trans fold_len (by omega)) (by first | exact laidL_good.len | exact (foldl_good hG9).len)) ?_)
   rintro _ w226 ⟨rfl, hS227⟩
   refine st_nil ?_
   refine WP_region0 (by kernel_rfl) (fun _ => ?_)
   refine st (ov_move (v := .int .i64 ((k : Nat) : Int)) rfl ?_)
   have hr228 : InR ((k + 1 : Nat) : Int) := by first | omega | (simp only [lens]; omega)
   refine st (ov_add (r := ((k + 1 : Nat) : Int)) (k := .i64) (a := ((k : Nat) : Int)) (b := 1) rfl rfl (by rw [show (((k : Nat) : Int) + 1 : Int) = ((k + 1 : Nat) : Int) by first | omega | (simp only [lens]; omega)]; exact wrap_in hr228) ?_)
   refine st (ov_assign (v := .int .i64 ((k + 1 : Nat) : Int)) rfl ?_)
   refine st_nil ?_
   have hS229 : Sep G W ((BufO b21 (max 0 (min 256 256)) ([] : List Ev)) :: (SetO b18 (1 + q6) (addL (1 + q6) (laidL (1 + q6) (l.take k)) (l.getD k default))) :: Rs) w226 := hS227.sel 2 [1, 0] (Nat.le_add_left _ _) rfl rfl
   have hL230 : (laidL (1 + q6) (l.take (k + 1))) = (addL (1 + q6) (laidL (1 + q6) (l.take k)) (l.getD k default)) := (laid_step (by omega)).symm
   rw [← hL230] at hS229
   exact ⟨_, by omega, k + 1, _, rfl, setAll_self ⟨rfl, rfl, rfl, rfl, rfl, rfl, trivial⟩, by omega, hS229⟩
 ·skip
  have hc5r := hc5
  refine WP_cond_t rfl ?_
  refine WP_seq ?_
  refine WP_region0 (by kernel_rfl) (fun _ => ?_)
  refine st (ov_call (f := 9) (vals := []) (cap := []) (show _ = (.func (.func 9) #[] #[] : Value) from rfl) rfl Try.call9 (D_known25  hS4) ?_)
  rintro _ w231 ⟨rfl, hS232⟩
  refine st (ov_assign (v := .bool true) rfl ?_)
  refine st_nil ?_
  refine WP_ret ?_
  refine fin1 Try.results3 (show _ = (.bool true : Value) from rfl) ?_
  refine ⟨rfl, hS232⟩

end Go.Proofs.Ytmiihhbeclhaoaa
end

section
/- Steps of the proofs of this seat: part F3. -/
set_option linter.unusedSimpArgs false
set_option linter.unusedVariables false
set_option maxRecDepth 8000
set_option maxHeartbeats 4000000
namespace Go.Proofs.Ytmiihhbeclhaoaa
open Go.Proofs Go.RowKit

theorem C_BufferAll {W : World} {z0 : Int} (hz0 : InR z0) {vz1 : Value} {z1 : List Ev} (hz1 : RdS W (inHeap W) vz1 z1) {z2 : Int} (hz2 : InR z2) : Ret Try.prog 3 [.int .i64 z0, vz1, .int .i64 z2] W (fun r w' => r = .bool true ∧ Ext W w') :=
  Ret.mono (D_BufferAll hz0 hz1 hz2 (Sep.start W)) (fun v w' ⟨h1, h2⟩ => ⟨h1, h2.fin⟩)
end Go.Proofs.Ytmiihhbeclhaoaa
end
