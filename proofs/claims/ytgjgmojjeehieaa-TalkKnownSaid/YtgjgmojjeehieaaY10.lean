/- Texts of this claim, part 10. -/
import Derived.Test.YtgjgmojjeehieaaY9
set_option linter.unusedSimpArgs false
set_option linter.unusedVariables false
section
/- Steps of the proofs of this seat: part T3. -/
set_option linter.unusedSimpArgs false
set_option linter.unusedVariables false
set_option maxRecDepth 8000
set_option maxHeartbeats 4000000
namespace Go.Proofs.Ytgjgmojjeehieaa
open Go.Proofs Go.RowKit

theorem D_laid27 {G : Nat → Prop} {W w : World} {Rs : List HP} {n : Nat} (hn : n ≤ 1000) {vl : Value} {l : List Ev} (hl : RdS W G vl l) (hS0 : Sep G W Rs w) (hl9 : l.length ≤ 1000) : Ret Try.prog 40 [.int .i64 ((n : Nat) : Int), vl] w (fun r w' => ∃ (b : Nat), r = (.pointer (some ⟨b, 0, none⟩) : Value) ∧ Sep G W ((SetO b n (laidL n l)) :: Rs) w') := by
 have hls : l.length * 96 ≤ 140737488355328 := hl.small
 refine Calls_of_WP (args := [.int .i64 ((n : Nat) : Int), vl]) Try.func40 rfl rfl ?_
 refine WP_seq ?_
 refine WP_region0 (by kernel_rfl) (fun _ => ?_)
 refine st (ov_assign (v := .pointer none) rfl ?_)
 refine st_nil ?_
 refine WP_seq ?_
 refine WP_region0 (by kernel_rfl) (fun _ => ?_)
 refine st (ov_move (v := .int .i64 ((n : Nat) : Int)) rfl ?_)
 refine st (ov_call (f := 20) (vals := [.int .i64 ((n : Nat) : Int)]) (cap := []) (show _ = (.func (.func 20) #[] #[] : Value) from rfl) rfl Try.call20 (D_NewSet (n := n) (by first | omega | (refine ⟨?_, ?_⟩ <;> omega)) hS0) ?_)
 rintro _ w2 ⟨b1, rfl, hS3⟩
 refine st (ov_assign (v := .pointer (some ⟨b1, 0, none⟩)) rfl ?_)
 refine st_nil ?_
 refine WP_seq ?_
 refine WP_seq ?_
 refine WP_region0 (by kernel_rfl) (fun _ => ?_)
 refine st (ov_move (v := .pointer (some ⟨b1, 0, none⟩)) rfl ?_)
 refine st (ov_eqlPtr (b := b1) (o := 0) Try.underlying26 rfl ?_)
 refine st_nil ?_
 refine WP_cond_f rfl ?_
 refine WP_skip ?_
 refine WP_seq ?_
 refine WP_seq ?_
 refine WP_region0 (by kernel_rfl) (fun _ => ?_)
 refine st (ov_assign (v := .int .i64 (0)) rfl ?_)
 refine st_nil ?_
 refine WP_block ?_
 refine WP_loop (fun mq σ wq => ∃ (k : Nat) (ρ : Env), mq = l.length - k ∧ σ = setAll ρ [(0, .int .i64 ((n : Nat) : Int)), (1, vl), (5, .pointer (some ⟨b1, 0, none⟩)), (6, .int .i64 ((k : Nat) : Int))] ∧ (k ≤ l.length) ∧ Sep G W ((SetO b1 n (laidL n (l.take k))) :: Rs) wq) ⟨0, _, rfl, setAll_self ⟨rfl, rfl, rfl, rfl, trivial⟩, Nat.zero_le _, hS3⟩ ?_
 rintro m5 σ6 w4 ⟨k, ρl1, rfl, rfl, hkk, hS7⟩
 refine WP_seq ?_
 refine WP_seq ?_
 refine WP_region0 (by kernel_rfl) (fun _ => ?_)
 refine st (ov_move (v := .int .i64 ((k : Nat) : Int)) rfl ?_)
 refine st (ov_move (v := vl) rfl ?_)
 refine st (ov_len (n := l.length) Try.underlying22 rfl hl.sl ?_)
 refine st (ov_lss (k := .i64) (a := ((k : Nat) : Int)) (b := ((l.length : Nat) : Int)) rfl rfl ?_)
 refine st_nil ?_
 cases hc8 : decide (((k : Nat) : Int) < ((l.length : Nat) : Int))
 ·skip
  have hc8 := of_decide_eq_false hc8
  refine WP_cond_f rfl ?_
  refine WP_exit ?_
  refine blk_exit ?_
  refine WP_seq ?_
  refine WP_region0 (by kernel_rfl) (fun _ => ?_)
  refine st (ov_move (v := .pointer (some ⟨b1, 0, none⟩)) rfl ?_)
  refine st (ov_assign (v := .pointer (some ⟨b1, 0, none⟩)) rfl ?_)
  refine st_nil ?_
  refine WP_ret ?_
  refine fin1 Try.results40 (show _ = (.pointer (some ⟨b1, 0, none⟩) : Value) from rfl) ?_
  have hk9 : k = l.length := by omega
  rw [hk9, List.take_length] at hS7
  refine ⟨b1, rfl, hS7⟩
 ·skip
  have hc8 := of_decide_eq_true hc8
  refine WP_cond_t rfl ?_
  refine WP_skip ?_
  refine WP_seq ?_
  refine WP_block ?_
  refine WP_region0 (by kernel_rfl) (fun _ => ?_)
  refine st (ov_move (v := .pointer (some ⟨b1, 0, none⟩)) rfl ?_)
  refine st (ov_move (v := vl) rfl ?_)
  refine st (ov_move (v := .int .i64 ((k : Nat) : Int)) rfl ?_)
  have hi9 : k < l.length := (by first | omega | (simp only [lens]; omega))
  refine st (ov_indexAddrN (k := 10) (i := k) Try.underlying22 Try.sizeOf36 rfl hl.sl rfl hi9 ?_)
  have hi11 : k < l.length := (by first | omega | (simp only [lens]; omega))
  obtain ⟨hce10, hde10_0, hoke10⟩ := hl.ev hi11
  rw [← getD_at default hi11] at hce10 hde10_0 hoke10
  have hsm12 : ((l.getD k default).deps).length * 8 ≤ 140737488355328 := hde10_0.small
  have hcw13 := hS7.cells hce10 (hl.foot (ne_of_lt hi11))
  refine st (ov_loadk (k := 10) Try.isAgg36 Try.sizeOf36 rfl rfl hcw13 ?_)
  refine st (ov_call (f := 21) (vals := [.pointer (some ⟨b1, 0, none⟩), .agg ((l.getD k default).cells (cellV W (sb vl) (so vl + k * 10 + 3))).toArray]) (cap := []) (show _ = (.func (.func 21) #[] #[] : Value) from rfl) rfl Try.call21 (D_Add (e := (l.getD k default)) hde10_0 hoke10 hS7 ((Nat.le_trans laid_take (by omega))) (laidL_good.len)) ?_)
  rintro _ w16 ⟨L114, rfl, hL115, hS17⟩
  refine st_nil ?_
  refine WP_region0 (by kernel_rfl) (fun _ => ?_)
  refine st (ov_move (v := .int .i64 ((k : Nat) : Int)) rfl ?_)
  have hr18 : InR ((k + 1 : Nat) : Int) := by first | omega | (simp only [lens]; omega)
  refine st (ov_add (r := ((k + 1 : Nat) : Int)) (k := .i64) (a := ((k : Nat) : Int)) (b := 1) rfl rfl (by rw [show (((k : Nat) : Int) + 1 : Int) = ((k + 1 : Nat) : Int) by first | omega | (simp only [lens]; omega)]; exact wrap_in hr18) ?_)
  refine st (ov_assign (v := .int .i64 ((k + 1 : Nat) : Int)) rfl ?_)
  refine st_nil ?_
  have hL19 : (laidL n (l.take (k + 1))) = L114 := (by rw [hL115]; exact (laid_step (by omega)).symm)
  rw [← hL19] at hS17
  exact ⟨_, by omega, k + 1, _, rfl, setAll_self ⟨rfl, rfl, rfl, rfl, trivial⟩, by omega, hS17⟩

def evZ : Ev := ⟨0, 1, 1, [0, 0], 0, 0, 0, 1, 1, 0⟩
theorem evZ_ok : evZ.Ok := by constructor <;> decide
theorem evB_ok2 : evB.Ok := by constructor <;> decide
theorem kl27 : laidL 2 [evZ, evB] = [evZ, evB] := by decide +kernel
theorem kg27 : Good 2 [evZ, evB] := by rw [← kl27]; exact laidL_good
def an14 : List Msg := [⟨3, 0, 1, [], [evZ]⟩]
def an18 : List Msg := [⟨2, 0, 1, [1, 1], []⟩]
def an22 : List Msg := [⟨4, 0, 1, [1, 1], []⟩]
def an26 : List Msg := [⟨3, 0, 1, [], [evZ]⟩, ⟨2, 0, 1, [1, 1], []⟩]
def an30 : List Msg := []
theorem D_both {G : Nat → Prop} {W w : World} {Rs : List HP}  (hS0 : Sep G W Rs w) : Ret Try.prog 72 [] w (fun r w' => ∃ (v : Value), r = (v : Value) ∧ Sep G W ((RowE (α := Ev) own 36 v [evZ, evB]) :: Rs) w') := by
 refine Calls_of_WP (args := []) Try.func72 rfl rfl ?_
 refine WP_seq ?_
 refine WP_region0 (by kernel_rfl) (fun _ => ?_)
 refine st (ov_assign (v := (.slice none 0 0)) rfl ?_)
 refine st_nil ?_
 refine WP_seq ?_
 refine WP_region0 (by kernel_rfl) (fun _ => ?_)
 refine st (ov_build (parts' := [(0, .int .i64 (0)), (1, .int .i64 (1))]) (v := .agg #[.int .i64 (0), .int .i64 (1)]) rfl (by simp [Instr.build, Instr.fill, go_sem, Ev.cells]) ?_)
 refine st (ov_buildSlice (k := 1) (parts' := [(0, .int .i64 (0)), (1, .int .i64 (0))]) (c := #[.int .i64 (0), .int .i64 (0)]) Try.underlying34 Try.sizeOf3 Try.zeroValue3 (by decide) rfl (by kernel_rfl) ?_)
 intro w3 b2 hn1
 have hS4 : Sep G W ((Blk b2 #[.int .i64 (0), .int .i64 (0)] 3) :: Rs) w3 := hS0.new hn1
 have hS5 : Sep G W ((RowE (α := Int) own 3 (.slice (some ⟨b2, 0, none⟩) 2 2) [0, 0]) :: Rs) w3 := Sep.blkRow (src := own) (l := [0, 0]) (css := [[.int .i64 (0)], [.int .i64 (0)]]) hS4 rfl ⟨fun _ _ => ⟨rfl, (by decide)⟩, fun _ _ => ⟨rfl, (by decide)⟩, trivial⟩ (by first | decide | (simp only [List.length_cons, List.length_nil]; decide))
 have hr6 := hS5.row (i := 0) rfl
 have hr6s : [0, 0].length * 8 ≤ 140737488355328 := hr6.2
 have ok7 : Ev.Ok (⟨0, 1, 1, [0, 0], 0, 0, 0, 1, 1, 0⟩ : Ev) := ⟨(show InR (0) from (by decide)), (show InR (1) from (by decide)), (show InR (1) from (by decide)), (show InR (0) from (by decide)), (show InR (0) from (by decide)), (show InR (0) from (by decide)), (show InR (1) from (by decide)), (show InR (1) from (by decide)), (show InR (0) from (by decide))⟩
 refine st (ov_build (parts' := [(0, .agg #[.int .i64 (0), .int .i64 (1)]), (1, .int .i64 (1)), (2, (.slice (some ⟨b2, 0, none⟩) 2 2)), (6, .int .i64 (1)), (7, .int .i64 (1))]) (v := .agg ((⟨0, 1, 1, [0, 0], 0, 0, 0, 1, 1, 0⟩ : Ev).cells (.slice (some ⟨b2, 0, none⟩) 2 2)).toArray) rfl (by simp [Instr.build, Instr.fill, go_sem, Ev.cells]) ?_)
 refine st (ov_build (parts' := [(0, .int .i64 (1)), (1, .int .i64 (1))]) (v := .agg #[.int .i64 (1), .int .i64 (1)]) rfl (by simp [Instr.build, Instr.fill, go_sem, Ev.cells]) ?_)
 refine st (ov_buildSlice (k := 1) (parts' := [(0, .int .i64 (1)), (1, .int .i64 (0))]) (c := #[.int .i64 (1), .int .i64 (0)]) Try.underlying34 Try.sizeOf3 Try.zeroValue3 (by decide) rfl (by kernel_rfl) ?_)
 intro w10 b9 hn8
 have hS11 : Sep G W ((Blk b9 #[.int .i64 (1), .int .i64 (0)] 3) :: (RowE (α := Int) own 3 (.slice (some ⟨b2, 0, none⟩) 2 2) [0, 0]) :: Rs) w10 := hS5.new hn8
 have hS12 : Sep G W ((RowE (α := Int) own 3 (.slice (some ⟨b9, 0, none⟩) 2 2) [1, 0]) :: (RowE (α := Int) own 3 (.slice (some ⟨b2, 0, none⟩) 2 2) [0, 0]) :: Rs) w10 := Sep.blkRow (src := own) (l := [1, 0]) (css := [[.int .i64 (1)], [.int .i64 (0)]]) hS11 rfl ⟨fun _ _ => ⟨rfl, (by decide)⟩, fun _ _ => ⟨rfl, (by decide)⟩, trivial⟩ (by first | decide | (simp only [List.length_cons, List.length_nil]; decide))
 have hr13 := hS12.row (i := 0) rfl
 have hr13s : [1, 0].length * 8 ≤ 140737488355328 := hr13.2
 have ok14 : Ev.Ok (⟨1, 1, 2, [1, 0], 0, 0, 0, 1, 1, 0⟩ : Ev) := ⟨(show InR (1) from (by decide)), (show InR (1) from (by decide)), (show InR (2) from (by decide)), (show InR (0) from (by decide)), (show InR (0) from (by decide)), (show InR (0) from (by decide)), (show InR (1) from (by decide)), (show InR (1) from (by decide)), (show InR (0) from (by decide))⟩
 refine st (ov_build (parts' := [(0, .agg #[.int .i64 (1), .int .i64 (1)]), (1, .int .i64 (2)), (2, (.slice (some ⟨b9, 0, none⟩) 2 2)), (6, .int .i64 (1)), (7, .int .i64 (1))]) (v := .agg ((⟨1, 1, 2, [1, 0], 0, 0, 0, 1, 1, 0⟩ : Ev).cells (.slice (some ⟨b9, 0, none⟩) 2 2)).toArray) rfl (by simp [Instr.build, Instr.fill, go_sem, Ev.cells]) ?_)
 refine st (ov_buildSlice (k := 10) (parts' := [(0, .agg ((⟨0, 1, 1, [0, 0], 0, 0, 0, 1, 1, 0⟩ : Ev).cells (.slice (some ⟨b2, 0, none⟩) 2 2)).toArray), (1, .agg ((⟨1, 1, 2, [1, 0], 0, 0, 0, 1, 1, 0⟩ : Ev).cells (.slice (some ⟨b9, 0, none⟩) 2 2)).toArray)]) (c := #[.int .i64 (0), .int .i64 (1), .int .i64 (1), (.slice (some ⟨b2, 0, none⟩) 2 2), .int .i64 (0), .int .i64 (0), .int .i64 (0), .int .i64 (1), .int .i64 (1), .int .i64 (0), .int .i64 (1), .int .i64 (1), .int .i64 (2), (.slice (some ⟨b9, 0, none⟩) 2 2), .int .i64 (0), .int .i64 (0), .int .i64 (0), .int .i64 (1), .int .i64 (1), .int .i64 (0)]) Try.underlying22 Try.sizeOf36 Try.zeroValue36 (by decide) rfl (by kernel_rfl) ?_)
 intro w17 b16 hn15
 have hS18 : Sep G W ((Blk b16 #[.int .i64 (0), .int .i64 (1), .int .i64 (1), (.slice (some ⟨b2, 0, none⟩) 2 2), .int .i64 (0), .int .i64 (0), .int .i64 (0), .int .i64 (1), .int .i64 (1), .int .i64 (0), .int .i64 (1), .int .i64 (1), .int .i64 (2), (.slice (some ⟨b9, 0, none⟩) 2 2), .int .i64 (0), .int .i64 (0), .int .i64 (0), .int .i64 (1), .int .i64 (1), .int .i64 (0)] 36) :: (RowE (α := Int) own 3 (.slice (some ⟨b9, 0, none⟩) 2 2) [1, 0]) :: (RowE (α := Int) own 3 (.slice (some ⟨b2, 0, none⟩) 2 2) [0, 0]) :: Rs) w17 := hS12.new hn15
 refine st (ov_assign (v := (.slice (some ⟨b16, 0, none⟩) 2 2)) rfl ?_)
 refine st_nil ?_
 refine WP_ret ?_
 refine fin1 Try.results72 (show _ = ((.slice (some ⟨b16, 0, none⟩) 2 2) : Value) from rfl) ?_
 have hS19 : Sep G W ((Blk b16 #[.int .i64 (0), .int .i64 (1), .int .i64 (1), (.slice (some ⟨b2, 0, none⟩) 2 2), .int .i64 (0), .int .i64 (0), .int .i64 (0), .int .i64 (1), .int .i64 (1), .int .i64 (0), .int .i64 (1), .int .i64 (1), .int .i64 (2), (.slice (some ⟨b9, 0, none⟩) 2 2), .int .i64 (0), .int .i64 (0), .int .i64 (0), .int .i64 (1), .int .i64 (1), .int .i64 (0)] 36) :: (RowE (α := Int) own 3 (.slice (some ⟨b2, 0, none⟩) 2 2) [0, 0]) :: (RowE (α := Int) own 3 (.slice (some ⟨b9, 0, none⟩) 2 2) [1, 0]) :: Rs) w17 := hS18.sel 3 [0, 2, 1] (Nat.le_add_left _ _) rfl rfl
 have hS20 : Sep G W ((RowE (α := Ev) own 36 (.slice (some ⟨b16, 0, none⟩) 2 2) [evZ, evB]) :: Rs) w17 := Sep.rowOf2 (cs1 := evZ.cells (.slice (some ⟨b2, 0, none⟩) 2 2)) (cs2 := evB.cells (.slice (some ⟨b9, 0, none⟩) 2 2)) hS19 rfl (fun _ _ hN => ⟨_, rfl, RowE.soft hN, evZ_ok⟩) (fun _ _ hN => ⟨_, rfl, RowE.soft hN, evB_ok2⟩) (by decide)
 refine ⟨(.slice (some ⟨b16, 0, none⟩) 2 2), rfl, hS20⟩

theorem fd57_4 {d : Option Tmp} {ty : TypeId} {pos : String} {af : Array Edge} {g : Option (Nat × Bool)} {σ : Env} {w : World} {K : Value → World → Prop} {x : Operand} {b o : Nat} (hx : ev σ x = .pointer (some ⟨b, o, none⟩)) (h : K (.pointer (some ⟨b, o + 4, none⟩)) w) : opV Try.prog ⟨d, .fieldAddr 57 x 4, ty, pos, af, g⟩ σ w K := ov_fieldAddr Try.underlying57 rfl rfl (fun w => ⟨0, Try.sizeOf22 w⟩) hx h
theorem D_known27 {G : Nat → Prop} {W w : World} {Rs : List HP}  (hS0 : Sep G W Rs w) : Ret Try.prog 39 [] w (fun r w' => r = (.bool true : Value) ∧ Sep G W Rs w') := by
 refine Calls_of_WP (args := []) Try.func39 rfl rfl ?_
 refine WP_seq ?_
 refine WP_region0 (by kernel_rfl) (fun _ => ?_)
 refine st (ov_assign (v := .bool false) rfl ?_)
 refine st_nil ?_
 refine WP_seq ?_
 refine WP_region0 (by kernel_rfl) (fun _ => ?_)
 refine st (ov_call (f := 72) (vals := []) (cap := []) (show _ = (.func (.func 72) #[] #[] : Value) from rfl) rfl Try.call72 (D_both  hS0) ?_)
 rintro v1 w2 ⟨_, rfl, hS3⟩
 have hr4 := hS3.row (i := 0) rfl
 have hr4s : [evZ, evB].length * 96 ≤ 140737488355328 := hr4.2
 obtain ⟨G5, hA7, hB8, hS9, hk10⟩ := hS3.lend
 have hrd11 := RowE.rd hA7
 have hrd11s : [evZ, evB].length * 96 ≤ 140737488355328 := hrd11.small
 refine st (ov_call (f := 40) (vals := [.int .i64 (2), v1]) (cap := []) (show _ = (.func (.func 40) #[] #[] : Value) from rfl) rfl Try.call40 (D_laid27 (n := 2) (l := [evZ, evB]) (vl := v1) (by first | omega | (refine ⟨?_, ?_⟩ <;> omega)) hrd11 hS9 (by decide)) ?_)
 rintro _ w13 ⟨b12, rfl, hS14⟩
 have hS15 : Sep G W ((RowE (α := Ev) own 36 v1 [evZ, evB]) :: (SetO b12 2 (laidL 2 [evZ, evB])) :: Rs) w13 := hk10 _ _ hS14
 rw [kl27] at hS15
 have hS16 : Sep G W ((RowE (α := Ev) own 36 v1 [evZ, evB]) :: (SetO b12 2 [evZ, evB]) :: Rs) w13 := hS15
 refine st (ov_assign (v := .pointer (some ⟨b12, 0, none⟩)) rfl ?_)
 refine st_nil ?_
 refine WP_seq ?_
 refine WP_seq ?_
 refine WP_region0 (by kernel_rfl) (fun _ => ?_)
 refine st (ov_move (v := .pointer (some ⟨b12, 0, none⟩)) rfl ?_)
 refine st (ov_eqlPtr (b := b12) (o := 0) Try.underlying26 rfl ?_)
 refine st_nil ?_
 refine WP_cond_f rfl ?_
 refine WP_skip ?_
 refine WP_seq ?_
 refine WP_region0 (by kernel_rfl) (fun _ => ?_)
 refine st (ov_move (v := .pointer (some ⟨b12, 0, none⟩)) rfl ?_)
 refine st (ov_buildSlice (k := 1) (parts' := [(0, .int .i64 (0)), (1, .int .i64 (0))]) (c := #[.int .i64 (0), .int .i64 (0)]) Try.underlying34 Try.sizeOf3 Try.zeroValue3 (by decide) rfl (by kernel_rfl) ?_)
 intro w19 b18 hn17
 have hS20 : Sep G W ((Blk b18 #[.int .i64 (0), .int .i64 (0)] 3) :: (RowE (α := Ev) own 36 v1 [evZ, evB]) :: (SetO b12 2 [evZ, evB]) :: Rs) w19 := hS16.new hn17
 have hS21 : Sep G W ((RowE (α := Int) own 3 (.slice (some ⟨b18, 0, none⟩) 2 2) [0, 0]) :: (RowE (α := Ev) own 36 v1 [evZ, evB]) :: (SetO b12 2 [evZ, evB]) :: Rs) w19 := Sep.blkRow (src := own) (l := [0, 0]) (css := [[.int .i64 (0)], [.int .i64 (0)]]) hS20 rfl ⟨fun _ _ => ⟨rfl, (by decide)⟩, fun _ _ => ⟨rfl, (by decide)⟩, trivial⟩ (by first | decide | (simp only [List.length_cons, List.length_nil]; decide))
 have hr22 := hS21.row (i := 0) rfl
 have hr22s : [0, 0].length * 8 ≤ 140737488355328 := hr22.2
 have ok23 : Msg.Ok (⟨1, 1, 0, [0, 0], []⟩ : Msg) := ⟨(show InR (1) from (by decide)), (show InR (1) from (by decide)), (show InR (0) from (by decide))⟩
 refine st (ov_build (parts' := [(0, .int .i64 (1)), (1, .int .i64 (1)), (3, (.slice (some ⟨b18, 0, none⟩) 2 2))]) (v := .agg ((⟨1, 1, 0, [0, 0], []⟩ : Msg).cells (.slice (some ⟨b18, 0, none⟩) 2 2) (.slice none 0 0)).toArray) rfl (by simp [Instr.build, Instr.fill, go_sem, Msg.cells]) ?_)
 have hS24 : Sep G W ((SetO b12 2 [evZ, evB]) :: (RowE (α := Int) own 3 (.slice (some ⟨b18, 0, none⟩) 2 2) [0, 0]) :: (RowE (α := Ev) own 36 v1 [evZ, evB]) :: Rs) w19 := hS21.sel 3 [2, 0, 1] (Nat.le_add_left _ _) rfl rfl
 obtain ⟨G25, hA27, hB28, hS29, hk30⟩ := hS24.lend
 obtain ⟨vv31, m32, R33, hb34, hv35, hr36⟩ := SetO.sh hA27
 have hsm37 : (vecE 2 [evZ, evB]).length * 8 ≤ 140737488355328 := hv35.small
 obtain ⟨G38, hA40, hB41, hS42, hk43⟩ := hS29.lend
 have hrd44 := RowE.rd hA40
 have hrd44s : [0, 0].length * 8 ≤ 140737488355328 := hrd44.small
 refine st (ov_call (f := 41) (vals := [.pointer (some ⟨b12, 0, none⟩), .int .i64 (0), .agg ((⟨1, 1, 0, [0, 0], []⟩ : Msg).cells (.slice (some ⟨b18, 0, none⟩) 2 2) (.slice none 0 0)).toArray, .int .i64 (1)]) (cap := []) (show _ = (.func (.func 41) #[] #[] : Value) from rfl) rfl Try.call41 (D_Answer (self := 0) (m := (⟨1, 1, 0, [0, 0], []⟩ : Msg)) (chunk := 1) (HP.base hA27 hB41) (by decide) hrd44 (RdS.nil _ _) ok23 (by decide) hS42 (kg27.ids) (kg27.srt) (by decide)) ?_)
 rintro v45 w46 ⟨_, rfl, hS47⟩
 have hr48 := hS47.row (i := 0) rfl
 have hr48s : (ansL 2 [evZ, evB] 0 (⟨1, 1, 0, [0, 0], []⟩ : Msg) 1).length * 72 ≤ 140737488355328 := hr48.2
 have hS49 : Sep G25 w19 ((RowE (α := Int) own 3 (.slice (some ⟨b18, 0, none⟩) 2 2) [0, 0]) :: (RowE (α := Msg) own 57 v45 (ansL 2 [evZ, evB] 0 (⟨1, 1, 0, [0, 0], []⟩ : Msg) 1)) :: (RowE (α := Ev) own 36 v1 [evZ, evB]) :: Rs) w46 := hk43 _ _ hS47
 have hS50 : Sep G W ((SetO b12 2 [evZ, evB]) :: (RowE (α := Int) own 3 (.slice (some ⟨b18, 0, none⟩) 2 2) [0, 0]) :: (RowE (α := Msg) own 57 v45 (ansL 2 [evZ, evB] 0 (⟨1, 1, 0, [0, 0], []⟩ : Msg) 1)) :: (RowE (α := Ev) own 36 v1 [evZ, evB]) :: Rs) w46 := hk30 _ _ hS49
 rw [show ansL 2 [evZ, evB] 0 (⟨1, 1, 0, [0, 0], []⟩ : Msg) 1 = (an14 : List Msg) from by decide +kernel] at hS50
 have hS51 : Sep G W ((SetO b12 2 [evZ, evB]) :: (RowE (α := Int) own 3 (.slice (some ⟨b18, 0, none⟩) 2 2) [0, 0]) :: (RowE (α := Msg) own 57 v45 an14) :: (RowE (α := Ev) own 36 v1 [evZ, evB]) :: Rs) w46 := hS50
 have hS52 : Sep G W ((SetO b12 2 [evZ, evB]) :: (RowE (α := Msg) own 57 v45 an14) :: (RowE (α := Ev) own 36 v1 [evZ, evB]) :: Rs) w46 := hS51.sel 4 [0, 2, 3] (Nat.le_add_left _ _) rfl rfl
 have hr53 := hS52.row (i := 1) rfl
 have hr53s : an14.length * 72 ≤ 140737488355328 := hr53.2
 refine st (ov_assign (v := v45) rfl ?_)
 refine st_nil ?_
 refine WP_seq ?_
 refine WP_region0 (by kernel_rfl) (fun _ => ?_)
 refine st (ov_move (v := .pointer (some ⟨b12, 0, none⟩)) rfl ?_)
 refine st (ov_buildSlice (k := 1) (parts' := [(0, .int .i64 (1)), (1, .int .i64 (3))]) (c := #[.int .i64 (1), .int .i64 (3)]) Try.underlying34 Try.sizeOf3 Try.zeroValue3 (by decide) rfl (by kernel_rfl) ?_)
 intro w56 b55 hn54
 have hS57 : Sep G W ((Blk b55 #[.int .i64 (1), .int .i64 (3)] 3) :: (SetO b12 2 [evZ, evB]) :: (RowE (α := Msg) own 57 v45 an14) :: (RowE (α := Ev) own 36 v1 [evZ, evB]) :: Rs) w56 := hS52.new hn54
 have hS58 : Sep G W ((RowE (α := Int) own 3 (.slice (some ⟨b55, 0, none⟩) 2 2) [1, 3]) :: (SetO b12 2 [evZ, evB]) :: (RowE (α := Msg) own 57 v45 an14) :: (RowE (α := Ev) own 36 v1 [evZ, evB]) :: Rs) w56 := Sep.blkRow (src := own) (l := [1, 3]) (css := [[.int .i64 (1)], [.int .i64 (3)]]) hS57 rfl ⟨fun _ _ => ⟨rfl, (by decide)⟩, fun _ _ => ⟨rfl, (by decide)⟩, trivial⟩ (by first | decide | (simp only [List.length_cons, List.length_nil]; decide))
 have hr59 := hS58.row (i := 0) rfl
 have hr59s : [1, 3].length * 8 ≤ 140737488355328 := hr59.2
 have ok60 : Msg.Ok (⟨1, 1, 0, [1, 3], []⟩ : Msg) := ⟨(show InR (1) from (by decide)), (show InR (1) from (by decide)), (show InR (0) from (by decide))⟩
 refine st (ov_build (parts' := [(0, .int .i64 (1)), (1, .int .i64 (1)), (3, (.slice (some ⟨b55, 0, none⟩) 2 2))]) (v := .agg ((⟨1, 1, 0, [1, 3], []⟩ : Msg).cells (.slice (some ⟨b55, 0, none⟩) 2 2) (.slice none 0 0)).toArray) rfl (by simp [Instr.build, Instr.fill, go_sem, Msg.cells]) ?_)
 have hS61 : Sep G W ((SetO b12 2 [evZ, evB]) :: (RowE (α := Int) own 3 (.slice (some ⟨b55, 0, none⟩) 2 2) [1, 3]) :: (RowE (α := Msg) own 57 v45 an14) :: (RowE (α := Ev) own 36 v1 [evZ, evB]) :: Rs) w56 := hS58.sel 4 [1, 0, 2, 3] (Nat.le_add_left _ _) rfl rfl
 obtain ⟨G62, hA64, hB65, hS66, hk67⟩ := hS61.lend
 obtain ⟨vv68, m69, R70, hb71, hv72, hr73⟩ := SetO.sh hA64
 have hsm74 : (vecE 2 [evZ, evB]).length * 8 ≤ 140737488355328 := hv72.small
 obtain ⟨G75, hA77, hB78, hS79, hk80⟩ := hS66.lend
 have hrd81 := RowE.rd hA77
 have hrd81s : [1, 3].length * 8 ≤ 140737488355328 := hrd81.small
 refine st (ov_call (f := 41) (vals := [.pointer (some ⟨b12, 0, none⟩), .int .i64 (0), .agg ((⟨1, 1, 0, [1, 3], []⟩ : Msg).cells (.slice (some ⟨b55, 0, none⟩) 2 2) (.slice none 0 0)).toArray, .int .i64 (9)]) (cap := []) (show _ = (.func (.func 41) #[] #[] : Value) from rfl) rfl Try.call41 (D_Answer (self := 0) (m := (⟨1, 1, 0, [1, 3], []⟩ : Msg)) (chunk := 9) (HP.base hA64 hB78) (by decide) hrd81 (RdS.nil _ _) ok60 (by decide) hS79 (kg27.ids) (kg27.srt) (by decide)) ?_)
 rintro v82 w83 ⟨_, rfl, hS84⟩
 have hr85 := hS84.row (i := 0) rfl
 have hr85s : (ansL 2 [evZ, evB] 0 (⟨1, 1, 0, [1, 3], []⟩ : Msg) 9).length * 72 ≤ 140737488355328 := hr85.2
 have hS86 : Sep G62 w56 ((RowE (α := Int) own 3 (.slice (some ⟨b55, 0, none⟩) 2 2) [1, 3]) :: (RowE (α := Msg) own 57 v82 (ansL 2 [evZ, evB] 0 (⟨1, 1, 0, [1, 3], []⟩ : Msg) 9)) :: (RowE (α := Msg) own 57 v45 an14) :: (RowE (α := Ev) own 36 v1 [evZ, evB]) :: Rs) w83 := hk80 _ _ hS84
 have hS87 : Sep G W ((SetO b12 2 [evZ, evB]) :: (RowE (α := Int) own 3 (.slice (some ⟨b55, 0, none⟩) 2 2) [1, 3]) :: (RowE (α := Msg) own 57 v82 (ansL 2 [evZ, evB] 0 (⟨1, 1, 0, [1, 3], []⟩ : Msg) 9)) :: (RowE (α := Msg) own 57 v45 an14) :: (RowE (α := Ev) own 36 v1 [evZ, evB]) :: Rs) w83 := hk67 _ _ hS86
 rw [show ansL 2 [evZ, evB] 0 (⟨1, 1, 0, [1, 3], []⟩ : Msg) 9 = (an18 : List Msg) from by decide +kernel] at hS87
 have hS88 : Sep G W ((SetO b12 2 [evZ, evB]) :: (RowE (α := Int) own 3 (.slice (some ⟨b55, 0, none⟩) 2 2) [1, 3]) :: (RowE (α := Msg) own 57 v82 an18) :: (RowE (α := Msg) own 57 v45 an14) :: (RowE (α := Ev) own 36 v1 [evZ, evB]) :: Rs) w83 := hS87
 have hS89 : Sep G W ((SetO b12 2 [evZ, evB]) :: (RowE (α := Msg) own 57 v82 an18) :: (RowE (α := Msg) own 57 v45 an14) :: (RowE (α := Ev) own 36 v1 [evZ, evB]) :: Rs) w83 := hS88.sel 5 [0, 2, 3, 4] (Nat.le_add_left _ _) rfl rfl
 have hr90 := hS89.row (i := 1) rfl
 have hr90s : an18.length * 72 ≤ 140737488355328 := hr90.2
 refine st (ov_assign (v := v82) rfl ?_)
 refine st_nil ?_
 refine WP_seq ?_
 refine WP_region0 (by kernel_rfl) (fun _ => ?_)
 refine st (ov_move (v := .pointer (some ⟨b12, 0, none⟩)) rfl ?_)
 refine st (ov_buildSlice (k := 1) (parts' := [(0, .int .i64 (1)), (1, .int .i64 (3))]) (c := #[.int .i64 (1), .int .i64 (3)]) Try.underlying34 Try.sizeOf3 Try.zeroValue3 (by decide) rfl (by kernel_rfl) ?_)
 intro w93 b92 hn91
 have hS94 : Sep G W ((Blk b92 #[.int .i64 (1), .int .i64 (3)] 3) :: (SetO b12 2 [evZ, evB]) :: (RowE (α := Msg) own 57 v82 an18) :: (RowE (α := Msg) own 57 v45 an14) :: (RowE (α := Ev) own 36 v1 [evZ, evB]) :: Rs) w93 := hS89.new hn91
 have hS95 : Sep G W ((RowE (α := Int) own 3 (.slice (some ⟨b92, 0, none⟩) 2 2) [1, 3]) :: (SetO b12 2 [evZ, evB]) :: (RowE (α := Msg) own 57 v82 an18) :: (RowE (α := Msg) own 57 v45 an14) :: (RowE (α := Ev) own 36 v1 [evZ, evB]) :: Rs) w93 := Sep.blkRow (src := own) (l := [1, 3]) (css := [[.int .i64 (1)], [.int .i64 (3)]]) hS94 rfl ⟨fun _ _ => ⟨rfl, (by decide)⟩, fun _ _ => ⟨rfl, (by decide)⟩, trivial⟩ (by first | decide | (simp only [List.length_cons, List.length_nil]; decide))
 have hr96 := hS95.row (i := 0) rfl
 have hr96s : [1, 3].length * 8 ≤ 140737488355328 := hr96.2
 have ok97 : Msg.Ok (⟨2, 1, 0, [1, 3], []⟩ : Msg) := ⟨(show InR (2) from (by decide)), (show InR (1) from (by decide)), (show InR (0) from (by decide))⟩
 refine st (ov_build (parts' := [(0, .int .i64 (2)), (1, .int .i64 (1)), (3, (.slice (some ⟨b92, 0, none⟩) 2 2))]) (v := .agg ((⟨2, 1, 0, [1, 3], []⟩ : Msg).cells (.slice (some ⟨b92, 0, none⟩) 2 2) (.slice none 0 0)).toArray) rfl (by simp [Instr.build, Instr.fill, go_sem, Msg.cells]) ?_)
 have hS98 : Sep G W ((SetO b12 2 [evZ, evB]) :: (RowE (α := Int) own 3 (.slice (some ⟨b92, 0, none⟩) 2 2) [1, 3]) :: (RowE (α := Msg) own 57 v82 an18) :: (RowE (α := Msg) own 57 v45 an14) :: (RowE (α := Ev) own 36 v1 [evZ, evB]) :: Rs) w93 := hS95.sel 5 [1, 0, 2, 3, 4] (Nat.le_add_left _ _) rfl rfl
 obtain ⟨G99, hA101, hB102, hS103, hk104⟩ := hS98.lend
 obtain ⟨vv105, m106, R107, hb108, hv109, hr110⟩ := SetO.sh hA101
 have hsm111 : (vecE 2 [evZ, evB]).length * 8 ≤ 140737488355328 := hv109.small
 obtain ⟨G112, hA114, hB115, hS116, hk117⟩ := hS103.lend
 have hrd118 := RowE.rd hA114
 have hrd118s : [1, 3].length * 8 ≤ 140737488355328 := hrd118.small
 refine st (ov_call (f := 41) (vals := [.pointer (some ⟨b12, 0, none⟩), .int .i64 (0), .agg ((⟨2, 1, 0, [1, 3], []⟩ : Msg).cells (.slice (some ⟨b92, 0, none⟩) 2 2) (.slice none 0 0)).toArray, .int .i64 (9)]) (cap := []) (show _ = (.func (.func 41) #[] #[] : Value) from rfl) rfl Try.call41 (D_Answer (self := 0) (m := (⟨2, 1, 0, [1, 3], []⟩ : Msg)) (chunk := 9) (HP.base hA101 hB115) (by decide) hrd118 (RdS.nil _ _) ok97 (by decide) hS116 (kg27.ids) (kg27.srt) (by decide)) ?_)
 rintro v119 w120 ⟨_, rfl, hS121⟩
 have hr122 := hS121.row (i := 0) rfl
 have hr122s : (ansL 2 [evZ, evB] 0 (⟨2, 1, 0, [1, 3], []⟩ : Msg) 9).length * 72 ≤ 140737488355328 := hr122.2
 have hS123 : Sep G99 w93 ((RowE (α := Int) own 3 (.slice (some ⟨b92, 0, none⟩) 2 2) [1, 3]) :: (RowE (α := Msg) own 57 v119 (ansL 2 [evZ, evB] 0 (⟨2, 1, 0, [1, 3], []⟩ : Msg) 9)) :: (RowE (α := Msg) own 57 v82 an18) :: (RowE (α := Msg) own 57 v45 an14) :: (RowE (α := Ev) own 36 v1 [evZ, evB]) :: Rs) w120 := hk117 _ _ hS121
 have hS124 : Sep G W ((SetO b12 2 [evZ, evB]) :: (RowE (α := Int) own 3 (.slice (some ⟨b92, 0, none⟩) 2 2) [1, 3]) :: (RowE (α := Msg) own 57 v119 (ansL 2 [evZ, evB] 0 (⟨2, 1, 0, [1, 3], []⟩ : Msg) 9)) :: (RowE (α := Msg) own 57 v82 an18) :: (RowE (α := Msg) own 57 v45 an14) :: (RowE (α := Ev) own 36 v1 [evZ, evB]) :: Rs) w120 := hk104 _ _ hS123
 rw [show ansL 2 [evZ, evB] 0 (⟨2, 1, 0, [1, 3], []⟩ : Msg) 9 = (an22 : List Msg) from by decide +kernel] at hS124
 have hS125 : Sep G W ((SetO b12 2 [evZ, evB]) :: (RowE (α := Int) own 3 (.slice (some ⟨b92, 0, none⟩) 2 2) [1, 3]) :: (RowE (α := Msg) own 57 v119 an22) :: (RowE (α := Msg) own 57 v82 an18) :: (RowE (α := Msg) own 57 v45 an14) :: (RowE (α := Ev) own 36 v1 [evZ, evB]) :: Rs) w120 := hS124
 have hS126 : Sep G W ((SetO b12 2 [evZ, evB]) :: (RowE (α := Msg) own 57 v119 an22) :: (RowE (α := Msg) own 57 v82 an18) :: (RowE (α := Msg) own 57 v45 an14) :: (RowE (α := Ev) own 36 v1 [evZ, evB]) :: Rs) w120 := hS125.sel 6 [0, 2, 3, 4, 5] (Nat.le_add_left _ _) rfl rfl
 have hr127 := hS126.row (i := 1) rfl
 have hr127s : an22.length * 72 ≤ 140737488355328 := hr127.2
 refine st (ov_assign (v := v119) rfl ?_)
 refine st_nil ?_
 refine WP_seq ?_
 refine WP_region0 (by kernel_rfl) (fun _ => ?_)
 refine st (ov_move (v := .pointer (some ⟨b12, 0, none⟩)) rfl ?_)
 refine st (ov_buildSlice (k := 1) (parts' := [(0, .int .i64 (0)), (1, .int .i64 (2))]) (c := #[.int .i64 (0), .int .i64 (2)]) Try.underlying34 Try.sizeOf3 Try.zeroValue3 (by decide) rfl (by kernel_rfl) ?_)
 intro w130 b129 hn128
 have hS131 : Sep G W ((Blk b129 #[.int .i64 (0), .int .i64 (2)] 3) :: (SetO b12 2 [evZ, evB]) :: (RowE (α := Msg) own 57 v119 an22) :: (RowE (α := Msg) own 57 v82 an18) :: (RowE (α := Msg) own 57 v45 an14) :: (RowE (α := Ev) own 36 v1 [evZ, evB]) :: Rs) w130 := hS126.new hn128
 have hS132 : Sep G W ((RowE (α := Int) own 3 (.slice (some ⟨b129, 0, none⟩) 2 2) [0, 2]) :: (SetO b12 2 [evZ, evB]) :: (RowE (α := Msg) own 57 v119 an22) :: (RowE (α := Msg) own 57 v82 an18) :: (RowE (α := Msg) own 57 v45 an14) :: (RowE (α := Ev) own 36 v1 [evZ, evB]) :: Rs) w130 := Sep.blkRow (src := own) (l := [0, 2]) (css := [[.int .i64 (0)], [.int .i64 (2)]]) hS131 rfl ⟨fun _ _ => ⟨rfl, (by decide)⟩, fun _ _ => ⟨rfl, (by decide)⟩, trivial⟩ (by first | decide | (simp only [List.length_cons, List.length_nil]; decide))
 have hr133 := hS132.row (i := 0) rfl
 have hr133s : [0, 2].length * 8 ≤ 140737488355328 := hr133.2
 have ok134 : Msg.Ok (⟨1, 1, 0, [0, 2], []⟩ : Msg) := ⟨(show InR (1) from (by decide)), (show InR (1) from (by decide)), (show InR (0) from (by decide))⟩
 refine st (ov_build (parts' := [(0, .int .i64 (1)), (1, .int .i64 (1)), (3, (.slice (some ⟨b129, 0, none⟩) 2 2))]) (v := .agg ((⟨1, 1, 0, [0, 2], []⟩ : Msg).cells (.slice (some ⟨b129, 0, none⟩) 2 2) (.slice none 0 0)).toArray) rfl (by simp [Instr.build, Instr.fill, go_sem, Msg.cells]) ?_)
 have hS135 : Sep G W ((SetO b12 2 [evZ, evB]) :: (RowE (α := Int) own 3 (.slice (some ⟨b129, 0, none⟩) 2 2) [0, 2]) :: (RowE (α := Msg) own 57 v119 an22) :: (RowE (α := Msg) own 57 v82 an18) :: (RowE (α := Msg) own 57 v45 an14) :: (RowE (α := Ev) own 36 v1 [evZ, evB]) :: Rs) w130 := hS132.sel 6 [1, 0, 2, 3, 4, 5] (Nat.le_add_left _ _) rfl rfl
 obtain ⟨G136, hA138, hB139, hS140, hk141⟩ := hS135.lend
 obtain ⟨vv142, m143, R144, hb145, hv146, hr147⟩ := SetO.sh hA138
 have hsm148 : (vecE 2 [evZ, evB]).length * 8 ≤ 140737488355328 := hv146.small
 obtain ⟨G149, hA151, hB152, hS153, hk154⟩ := hS140.lend
 have hrd155 := RowE.rd hA151
 have hrd155s : [0, 2].length * 8 ≤ 140737488355328 := hrd155.small
 refine st (ov_call (f := 41) (vals := [.pointer (some ⟨b12, 0, none⟩), .int .i64 (0), .agg ((⟨1, 1, 0, [0, 2], []⟩ : Msg).cells (.slice (some ⟨b129, 0, none⟩) 2 2) (.slice none 0 0)).toArray, .int .i64 (9)]) (cap := []) (show _ = (.func (.func 41) #[] #[] : Value) from rfl) rfl Try.call41 (D_Answer (self := 0) (m := (⟨1, 1, 0, [0, 2], []⟩ : Msg)) (chunk := 9) (HP.base hA138 hB152) (by decide) hrd155 (RdS.nil _ _) ok134 (by decide) hS153 (kg27.ids) (kg27.srt) (by decide)) ?_)
 rintro v156 w157 ⟨_, rfl, hS158⟩
 have hr159 := hS158.row (i := 0) rfl
 have hr159s : (ansL 2 [evZ, evB] 0 (⟨1, 1, 0, [0, 2], []⟩ : Msg) 9).length * 72 ≤ 140737488355328 := hr159.2
 have hS160 : Sep G136 w130 ((RowE (α := Int) own 3 (.slice (some ⟨b129, 0, none⟩) 2 2) [0, 2]) :: (RowE (α := Msg) own 57 v156 (ansL 2 [evZ, evB] 0 (⟨1, 1, 0, [0, 2], []⟩ : Msg) 9)) :: (RowE (α := Msg) own 57 v119 an22) :: (RowE (α := Msg) own 57 v82 an18) :: (RowE (α := Msg) own 57 v45 an14) :: (RowE (α := Ev) own 36 v1 [evZ, evB]) :: Rs) w157 := hk154 _ _ hS158
 have hS161 : Sep G W ((SetO b12 2 [evZ, evB]) :: (RowE (α := Int) own 3 (.slice (some ⟨b129, 0, none⟩) 2 2) [0, 2]) :: (RowE (α := Msg) own 57 v156 (ansL 2 [evZ, evB] 0 (⟨1, 1, 0, [0, 2], []⟩ : Msg) 9)) :: (RowE (α := Msg) own 57 v119 an22) :: (RowE (α := Msg) own 57 v82 an18) :: (RowE (α := Msg) own 57 v45 an14) :: (RowE (α := Ev) own 36 v1 [evZ, evB]) :: Rs) w157 := hk141 _ _ hS160
 rw [show ansL 2 [evZ, evB] 0 (⟨1, 1, 0, [0, 2], []⟩ : Msg) 9 = (an26 : List Msg) from by decide +kernel] at hS161
 have hS162 : Sep G W ((SetO b12 2 [evZ, evB]) :: (RowE (α := Int) own 3 (.slice (some ⟨b129, 0, none⟩) 2 2) [0, 2]) :: (RowE (α := Msg) own 57 v156 an26) :: (RowE (α := Msg) own 57 v119 an22) :: (RowE (α := Msg) own 57 v82 an18) :: (RowE (α := Msg) own 57 v45 an14) :: (RowE (α := Ev) own 36 v1 [evZ, evB]) :: Rs) w157 := hS161
 have hS163 : Sep G W ((SetO b12 2 [evZ, evB]) :: (RowE (α := Msg) own 57 v156 an26) :: (RowE (α := Msg) own 57 v119 an22) :: (RowE (α := Msg) own 57 v82 an18) :: (RowE (α := Msg) own 57 v45 an14) :: (RowE (α := Ev) own 36 v1 [evZ, evB]) :: Rs) w157 := hS162.sel 7 [0, 2, 3, 4, 5, 6] (Nat.le_add_left _ _) rfl rfl
 have hr164 := hS163.row (i := 1) rfl
 have hr164s : an26.length * 72 ≤ 140737488355328 := hr164.2
 refine st (ov_assign (v := v156) rfl ?_)
 refine st_nil ?_
 refine WP_seq ?_
 refine WP_region0 (by kernel_rfl) (fun _ => ?_)
 refine st (ov_move (v := .pointer (some ⟨b12, 0, none⟩)) rfl ?_)
 refine st (ov_buildSlice (k := 1) (parts' := [(0, .int .i64 (0)), (1, .int .i64 (0))]) (c := #[.int .i64 (0), .int .i64 (0)]) Try.underlying34 Try.sizeOf3 Try.zeroValue3 (by decide) rfl (by kernel_rfl) ?_)
 intro w167 b166 hn165
 have hS168 : Sep G W ((Blk b166 #[.int .i64 (0), .int .i64 (0)] 3) :: (SetO b12 2 [evZ, evB]) :: (RowE (α := Msg) own 57 v156 an26) :: (RowE (α := Msg) own 57 v119 an22) :: (RowE (α := Msg) own 57 v82 an18) :: (RowE (α := Msg) own 57 v45 an14) :: (RowE (α := Ev) own 36 v1 [evZ, evB]) :: Rs) w167 := hS163.new hn165
 have hS169 : Sep G W ((RowE (α := Int) own 3 (.slice (some ⟨b166, 0, none⟩) 2 2) [0, 0]) :: (SetO b12 2 [evZ, evB]) :: (RowE (α := Msg) own 57 v156 an26) :: (RowE (α := Msg) own 57 v119 an22) :: (RowE (α := Msg) own 57 v82 an18) :: (RowE (α := Msg) own 57 v45 an14) :: (RowE (α := Ev) own 36 v1 [evZ, evB]) :: Rs) w167 := Sep.blkRow (src := own) (l := [0, 0]) (css := [[.int .i64 (0)], [.int .i64 (0)]]) hS168 rfl ⟨fun _ _ => ⟨rfl, (by decide)⟩, fun _ _ => ⟨rfl, (by decide)⟩, trivial⟩ (by first | decide | (simp only [List.length_cons, List.length_nil]; decide))
 have hr170 := hS169.row (i := 0) rfl
 have hr170s : [0, 0].length * 8 ≤ 140737488355328 := hr170.2
 have ok171 : Msg.Ok (⟨4, 1, 0, [0, 0], []⟩ : Msg) := ⟨(show InR (4) from (by decide)), (show InR (1) from (by decide)), (show InR (0) from (by decide))⟩
 refine st (ov_build (parts' := [(0, .int .i64 (4)), (1, .int .i64 (1)), (3, (.slice (some ⟨b166, 0, none⟩) 2 2))]) (v := .agg ((⟨4, 1, 0, [0, 0], []⟩ : Msg).cells (.slice (some ⟨b166, 0, none⟩) 2 2) (.slice none 0 0)).toArray) rfl (by simp [Instr.build, Instr.fill, go_sem, Msg.cells]) ?_)
 have hS172 : Sep G W ((SetO b12 2 [evZ, evB]) :: (RowE (α := Int) own 3 (.slice (some ⟨b166, 0, none⟩) 2 2) [0, 0]) :: (RowE (α := Msg) own 57 v156 an26) :: (RowE (α := Msg) own 57 v119 an22) :: (RowE (α := Msg) own 57 v82 an18) :: (RowE (α := Msg) own 57 v45 an14) :: (RowE (α := Ev) own 36 v1 [evZ, evB]) :: Rs) w167 := hS169.sel 7 [1, 0, 2, 3, 4, 5, 6] (Nat.le_add_left _ _) rfl rfl
 obtain ⟨G173, hA175, hB176, hS177, hk178⟩ := hS172.lend
 obtain ⟨vv179, m180, R181, hb182, hv183, hr184⟩ := SetO.sh hA175
 have hsm185 : (vecE 2 [evZ, evB]).length * 8 ≤ 140737488355328 := hv183.small
 obtain ⟨G186, hA188, hB189, hS190, hk191⟩ := hS177.lend
 have hrd192 := RowE.rd hA188
 have hrd192s : [0, 0].length * 8 ≤ 140737488355328 := hrd192.small
 refine st (ov_call (f := 41) (vals := [.pointer (some ⟨b12, 0, none⟩), .int .i64 (0), .agg ((⟨4, 1, 0, [0, 0], []⟩ : Msg).cells (.slice (some ⟨b166, 0, none⟩) 2 2) (.slice none 0 0)).toArray, .int .i64 (9)]) (cap := []) (show _ = (.func (.func 41) #[] #[] : Value) from rfl) rfl Try.call41 (D_Answer (self := 0) (m := (⟨4, 1, 0, [0, 0], []⟩ : Msg)) (chunk := 9) (HP.base hA175 hB189) (by decide) hrd192 (RdS.nil _ _) ok171 (by decide) hS190 (kg27.ids) (kg27.srt) (by decide)) ?_)
 rintro v193 w194 ⟨_, rfl, hS195⟩
 have hr196 := hS195.row (i := 0) rfl
 have hr196s : (ansL 2 [evZ, evB] 0 (⟨4, 1, 0, [0, 0], []⟩ : Msg) 9).length * 72 ≤ 140737488355328 := hr196.2
 have hS197 : Sep G173 w167 ((RowE (α := Int) own 3 (.slice (some ⟨b166, 0, none⟩) 2 2) [0, 0]) :: (RowE (α := Msg) own 57 v193 (ansL 2 [evZ, evB] 0 (⟨4, 1, 0, [0, 0], []⟩ : Msg) 9)) :: (RowE (α := Msg) own 57 v156 an26) :: (RowE (α := Msg) own 57 v119 an22) :: (RowE (α := Msg) own 57 v82 an18) :: (RowE (α := Msg) own 57 v45 an14) :: (RowE (α := Ev) own 36 v1 [evZ, evB]) :: Rs) w194 := hk191 _ _ hS195
 have hS198 : Sep G W ((SetO b12 2 [evZ, evB]) :: (RowE (α := Int) own 3 (.slice (some ⟨b166, 0, none⟩) 2 2) [0, 0]) :: (RowE (α := Msg) own 57 v193 (ansL 2 [evZ, evB] 0 (⟨4, 1, 0, [0, 0], []⟩ : Msg) 9)) :: (RowE (α := Msg) own 57 v156 an26) :: (RowE (α := Msg) own 57 v119 an22) :: (RowE (α := Msg) own 57 v82 an18) :: (RowE (α := Msg) own 57 v45 an14) :: (RowE (α := Ev) own 36 v1 [evZ, evB]) :: Rs) w194 := hk178 _ _ hS197
 rw [show ansL 2 [evZ, evB] 0 (⟨4, 1, 0, [0, 0], []⟩ : Msg) 9 = (an30 : List Msg) from by decide +kernel] at hS198
 have hS199 : Sep G W ((SetO b12 2 [evZ, evB]) :: (RowE (α := Int) own 3 (.slice (some ⟨b166, 0, none⟩) 2 2) [0, 0]) :: (RowE (α := Msg) own 57 v193 an30) :: (RowE (α := Msg) own 57 v156 an26) :: (RowE (α := Msg) own 57 v119 an22) :: (RowE (α := Msg) own 57 v82 an18) :: (RowE (α := Msg) own 57 v45 an14) :: (RowE (α := Ev) own 36 v1 [evZ, evB]) :: Rs) w194 := hS198
 have hS200 : Sep G W ((SetO b12 2 [evZ, evB]) :: (RowE (α := Msg) own 57 v193 an30) :: (RowE (α := Msg) own 57 v156 an26) :: (RowE (α := Msg) own 57 v119 an22) :: (RowE (α := Msg) own 57 v82 an18) :: (RowE (α := Msg) own 57 v45 an14) :: (RowE (α := Ev) own 36 v1 [evZ, evB]) :: Rs) w194 := hS199.sel 8 [0, 2, 3, 4, 5, 6, 7] (Nat.le_add_left _ _) rfl rfl
 have hr201 := hS200.row (i := 1) rfl
 have hr201s : an30.length * 72 ≤ 140737488355328 := hr201.2
 refine st (ov_assign (v := v193) rfl ?_)
 refine st_nil ?_
 refine WP_seq ?_
 have hS202 : Sep G W ((RowE (α := Msg) own 57 v193 an30) :: (SetO b12 2 [evZ, evB]) :: (RowE (α := Msg) own 57 v156 an26) :: (RowE (α := Msg) own 57 v119 an22) :: (RowE (α := Msg) own 57 v82 an18) :: (RowE (α := Msg) own 57 v45 an14) :: (RowE (α := Ev) own 36 v1 [evZ, evB]) :: Rs) w194 := hS200.sel 7 [1, 0, 2, 3, 4, 5, 6] (Nat.le_add_left _ _) rfl rfl
 obtain ⟨G203, hA205, hB206, hS207, hk208⟩ := hS202.lend
 have hrd209 := RowE.rd hA205
 have hrd209s : an30.length * 72 ≤ 140737488355328 := hrd209.small
 have hS210 : Sep G203 w194 ((RowE (α := Msg) own 57 v156 an26) :: (SetO b12 2 [evZ, evB]) :: (RowE (α := Msg) own 57 v119 an22) :: (RowE (α := Msg) own 57 v82 an18) :: (RowE (α := Msg) own 57 v45 an14) :: (RowE (α := Ev) own 36 v1 [evZ, evB]) :: Rs) w194 := hS207.sel 6 [1, 0, 2, 3, 4, 5] (Nat.le_add_left _ _) rfl rfl
 obtain ⟨G211, hA213, hB214, hS215, hk216⟩ := hS210.lend
 have hrd217 := RowE.rd hA213
 have hrd217s : an26.length * 72 ≤ 140737488355328 := hrd217.small
 have hS218 : Sep G211 w194 ((RowE (α := Msg) own 57 v119 an22) :: (SetO b12 2 [evZ, evB]) :: (RowE (α := Msg) own 57 v82 an18) :: (RowE (α := Msg) own 57 v45 an14) :: (RowE (α := Ev) own 36 v1 [evZ, evB]) :: Rs) w194 := hS215.sel 5 [1, 0, 2, 3, 4] (Nat.le_add_left _ _) rfl rfl
 obtain ⟨G219, hA221, hB222, hS223, hk224⟩ := hS218.lend
 have hrd225 := RowE.rd hA221
 have hrd225s : an22.length * 72 ≤ 140737488355328 := hrd225.small
 have hS226 : Sep G219 w194 ((RowE (α := Msg) own 57 v82 an18) :: (SetO b12 2 [evZ, evB]) :: (RowE (α := Msg) own 57 v45 an14) :: (RowE (α := Ev) own 36 v1 [evZ, evB]) :: Rs) w194 := hS223.sel 4 [1, 0, 2, 3] (Nat.le_add_left _ _) rfl rfl
 obtain ⟨G227, hA229, hB230, hS231, hk232⟩ := hS226.lend
 have hrd233 := RowE.rd hA229
 have hrd233s : an18.length * 72 ≤ 140737488355328 := hrd233.small
 have hS234 : Sep G227 w194 ((RowE (α := Msg) own 57 v45 an14) :: (SetO b12 2 [evZ, evB]) :: (RowE (α := Ev) own 36 v1 [evZ, evB]) :: Rs) w194 := hS231.sel 3 [1, 0, 2] (Nat.le_add_left _ _) rfl rfl
 obtain ⟨G235, hA237, hB238, hS239, hk240⟩ := hS234.lend
 have hrd241 := RowE.rd hA237
 have hrd241s : an14.length * 72 ≤ 140737488355328 := hrd241.small
 have hla9 : an14.length = 1 ∧ an18.length = 1 ∧ an22.length = 1 ∧ an26.length = 2 := ⟨rfl, rfl, rfl, rfl⟩
 refine WP_region (by kernel_rfl) ?_
 refine st (ov_move (v := v45) rfl ?_)
 refine st (ov_len (n := an14.length) Try.underlying58 rfl hrd241.sl ?_)
 have hkn242 : (decide (((an14.length : Nat) : Int) = 1)) = true := by decide +kernel
 refine st (ov_as (congrArg Value.bool hkn242) (fun K9 h9 => ov_eql (k := .i64) (a := ((an14.length : Nat) : Int)) (b := 1) rfl rfl h9) ?_)
 refine st (ov_move (v := .bool true) rfl ?_)
 refine sty rfl rfl (ov_move (v := v45) rfl ?_)
 have hi243 : 0 < an14.length := (by first | omega | (simp only [lens]; omega))
 refine sty rfl rfl (ov_indexAddrN (k := 5) (i := 0) Try.underlying58 Try.sizeOf57 rfl hrd241.sl rfl hi243 ?_)
 refine sty rfl rfl (fd57_0 rfl ?_)
 have hi245 : 0 < an14.length := (by first | omega | (simp only [lens]; omega))
 obtain ⟨hce244, hde244_0, hde244_1, hoke244⟩ := hrd241.msg hi245
 rw [← getD_at default hi245] at hce244 hde244_0 hde244_1 hoke244
 have hsm246 : ((an14.getD 0 default).vec).length * 8 ≤ 140737488355328 := hde244_0.small
 have hsm247 : ((an14.getD 0 default).evs).length * 96 ≤ 140737488355328 := hde244_1.small
 have hcw248 := hS239.cells hce244 (hrd241.foot (ne_of_lt hi245))
 refine sty rfl rfl (ov_load1 (v := .int .i64 ((an14.getD 0 default).kind)) Try.isAgg3 rfl (hcw248.get (j := 0) rfl) ?_)
 have hkn249 : (decide (((an14.getD 0 default).kind) = 3)) = true := by decide +kernel
 refine sty rfl rfl (ov_as (congrArg Value.bool hkn249) (fun K9 h9 => ov_eql (k := .i64) (a := (an14.getD 0 default).kind) (b := 3) rfl rfl h9) ?_)
 refine st (ov_pick_t (v := .bool true) rfl rfl ?_)
 refine st (ov_move (v := .bool true) rfl ?_)
 refine sty rfl rfl (ov_move (v := v45) rfl ?_)
 have hi250 : 0 < an14.length := (by first | omega | (simp only [lens]; omega))
 refine sty rfl rfl (ov_indexAddrN (k := 5) (i := 0) Try.underlying58 Try.sizeOf57 rfl hrd241.sl rfl hi250 ?_)
 refine sty rfl rfl (fd57_2 rfl ?_)
 have hcw252 := hS239.cells hce244 (hrd241.foot (ne_of_lt hi245))
 refine sty rfl rfl (ov_load1 (v := .int .i64 ((an14.getD 0 default).dst)) Try.isAgg3 rfl (hcw252.get (j := 2) rfl) ?_)
 have hkn253 : (decide (((an14.getD 0 default).dst) = 1)) = true := by decide +kernel
 refine sty rfl rfl (ov_as (congrArg Value.bool hkn253) (fun K9 h9 => ov_eql (k := .i64) (a := (an14.getD 0 default).dst) (b := 1) rfl rfl h9) ?_)
 refine st (ov_pick_t (v := .bool true) rfl rfl ?_)
 refine st (ov_move (v := .bool true) rfl ?_)
 refine sty rfl rfl (ov_move (v := v45) rfl ?_)
 have hi254 : 0 < an14.length := (by first | omega | (simp only [lens]; omega))
 refine sty rfl rfl (ov_indexAddrN (k := 5) (i := 0) Try.underlying58 Try.sizeOf57 rfl hrd241.sl rfl hi254 ?_)
 refine sty rfl rfl (fd57_4 rfl ?_)
 have hcw256 := hS239.cells hce244 (hrd241.foot (ne_of_lt hi245))
 refine sty rfl rfl (ov_load1 (v := (cellV w194 (sb v45) (so v45 + 0 * 5 + 4))) Try.isAgg22 rfl (hcw256.get (j := 4) rfl) ?_)
 refine sty rfl rfl (ov_len (n := ((an14.getD 0 default).evs).length) Try.underlying22 rfl hde244_1.sl ?_)
 have hkn257 : (decide (((((an14.getD 0 default).evs).length : Nat) : Int) = 1)) = true := by decide +kernel
 refine sty rfl rfl (ov_as (congrArg Value.bool hkn257) (fun K9 h9 => ov_eql (k := .i64) (a := ((((an14.getD 0 default).evs).length : Nat) : Int)) (b := 1) rfl rfl h9) ?_)
 refine st (ov_pick_t (v := .bool true) rfl rfl ?_)
 refine st (ov_move (v := .bool true) rfl ?_)
 refine sty rfl rfl (ov_move (v := v82) rfl ?_)
 refine sty rfl rfl (ov_len (n := an18.length) Try.underlying58 rfl (RdS.base hrd233 hB238).sl ?_)
 have hkn258 : (decide (((an18.length : Nat) : Int) = 1)) = true := by decide +kernel
 refine sty rfl rfl (ov_as (congrArg Value.bool hkn258) (fun K9 h9 => ov_eql (k := .i64) (a := ((an18.length : Nat) : Int)) (b := 1) rfl rfl h9) ?_)
 refine st (ov_pick_t (v := .bool true) rfl rfl ?_)
 refine st (ov_move (v := .bool true) rfl ?_)
 refine sty rfl rfl (ov_move (v := v82) rfl ?_)
 have hi259 : 0 < an18.length := (by first | omega | (simp only [lens]; omega))
 refine sty rfl rfl (ov_indexAddrN (k := 5) (i := 0) Try.underlying58 Try.sizeOf57 rfl (RdS.base hrd233 hB238).sl rfl hi259 ?_)
 refine sty rfl rfl (fd57_0 rfl ?_)
 have hi261 : 0 < an18.length := (by first | omega | (simp only [lens]; omega))
 obtain ⟨hce260, hde260_0, hde260_1, hoke260⟩ := (RdS.base hrd233 hB238).msg hi261
 rw [← getD_at default hi261] at hce260 hde260_0 hde260_1 hoke260
 have hsm262 : ((an18.getD 0 default).vec).length * 8 ≤ 140737488355328 := hde260_0.small
 have hsm263 : ((an18.getD 0 default).evs).length * 96 ≤ 140737488355328 := hde260_1.small
 have hcw264 := hS239.cells hce260 ((RdS.base hrd233 hB238).foot (ne_of_lt hi261))
 refine sty rfl rfl (ov_load1 (v := .int .i64 ((an18.getD 0 default).kind)) Try.isAgg3 rfl (hcw264.get (j := 0) rfl) ?_)
 have hkn265 : (decide (((an18.getD 0 default).kind) = 2)) = true := by decide +kernel
 refine sty rfl rfl (ov_as (congrArg Value.bool hkn265) (fun K9 h9 => ov_eql (k := .i64) (a := (an18.getD 0 default).kind) (b := 2) rfl rfl h9) ?_)
 refine st (ov_pick_t (v := .bool true) rfl rfl ?_)
 refine st (ov_move (v := .bool true) rfl ?_)
 refine sty rfl rfl (ov_move (v := v82) rfl ?_)
 have hi266 : 0 < an18.length := (by first | omega | (simp only [lens]; omega))
 refine sty rfl rfl (ov_indexAddrN (k := 5) (i := 0) Try.underlying58 Try.sizeOf57 rfl (RdS.base hrd233 hB238).sl rfl hi266 ?_)
 refine sty rfl rfl (fd57_3 rfl ?_)
 have hcw268 := hS239.cells hce260 ((RdS.base hrd233 hB238).foot (ne_of_lt hi261))
 refine sty rfl rfl (ov_load1 (v := (cellV w194 (sb v82) (so v82 + 0 * 5 + 3))) Try.isAgg34 rfl (hcw268.get (j := 3) rfl) ?_)
 refine sty rfl rfl (ov_buildSlice (k := 1) (parts' := [(0, .int .i64 (1)), (1, .int .i64 (1))]) (c := #[.int .i64 (1), .int .i64 (1)]) Try.underlying34 Try.sizeOf3 Try.zeroValue3 (by decide) rfl (by kernel_rfl) ?_)
 intro w271 b270 hn269
 have hS272 : Sep G235 w194 ((Blk b270 #[.int .i64 (1), .int .i64 (1)] 3) :: (SetO b12 2 [evZ, evB]) :: (RowE (α := Ev) own 36 v1 [evZ, evB]) :: Rs) w271 := hS239.new hn269
 have hS273 : Sep G235 w194 ((RowE (α := Int) own 3 (.slice (some ⟨b270, 0, none⟩) 2 2) [1, 1]) :: (SetO b12 2 [evZ, evB]) :: (RowE (α := Ev) own 36 v1 [evZ, evB]) :: Rs) w271 := Sep.blkRow (src := own) (l := [1, 1]) (css := [[.int .i64 (1)], [.int .i64 (1)]]) hS272 rfl ⟨fun _ _ => ⟨rfl, (by decide)⟩, fun _ _ => ⟨rfl, (by decide)⟩, trivial⟩ (by first | decide | (simp only [List.length_cons, List.length_nil]; decide))
 have hr274 := hS273.row (i := 0) rfl
 have hr274s : [1, 1].length * 8 ≤ 140737488355328 := hr274.2
 obtain ⟨G275, hA277, hB278, hS279, hk280⟩ := hS273.lend
 have hrd281 := RowE.rd hA277
 have hrd281s : [1, 1].length * 8 ≤ 140737488355328 := hrd281.small
 refine sty rfl rfl (ov_call (f := 27) (vals := [(cellV w194 (sb v82) (so v82 + 0 * 5 + 3)), (.slice (some ⟨b270, 0, none⟩) 2 2)]) (cap := []) (show _ = (.func (.func 27) #[] #[] : Value) from rfl) rfl Try.call27 (D_SameInts (a := (an18.getD 0 default).vec) (va := (cellV w194 (sb v82) (so v82 + 0 * 5 + 3))) (b := [1, 1]) (vb := (.slice (some ⟨b270, 0, none⟩) 2 2)) (RdS.base hde260_0 hB278) hrd281 hS279) ?_)
 rintro _ w282 ⟨rfl, hS283⟩
 have hS284 : Sep G235 w194 ((RowE (α := Int) own 3 (.slice (some ⟨b270, 0, none⟩) 2 2) [1, 1]) :: (SetO b12 2 [evZ, evB]) :: (RowE (α := Ev) own 36 v1 [evZ, evB]) :: Rs) w282 := hk280 _ _ hS283
 have hkn285 : (decide (((an18.getD 0 default).vec) = [1, 1])) = true := by decide +kernel
 rw [hkn285]
 refine st (ov_pick_t (v := .bool true) rfl rfl ?_)
 refine st (ov_move (v := .bool true) rfl ?_)
 refine sty rfl rfl (ov_move (v := v119) rfl ?_)
 refine sty rfl rfl (ov_len (n := an22.length) Try.underlying58 rfl (RdS.base (RdS.base hrd225 hB230) hB238).sl ?_)
 have hkn286 : (decide (((an22.length : Nat) : Int) = 1)) = true := by decide +kernel
 refine sty rfl rfl (ov_as (congrArg Value.bool hkn286) (fun K9 h9 => ov_eql (k := .i64) (a := ((an22.length : Nat) : Int)) (b := 1) rfl rfl h9) ?_)
 refine st (ov_pick_t (v := .bool true) rfl rfl ?_)
 refine st (ov_move (v := .bool true) rfl ?_)
 refine sty rfl rfl (ov_move (v := v119) rfl ?_)
 have hi287 : 0 < an22.length := (by first | omega | (simp only [lens]; omega))
 refine sty rfl rfl (ov_indexAddrN (k := 5) (i := 0) Try.underlying58 Try.sizeOf57 rfl (RdS.base (RdS.base hrd225 hB230) hB238).sl rfl hi287 ?_)
 refine sty rfl rfl (fd57_0 rfl ?_)
 have hi289 : 0 < an22.length := (by first | omega | (simp only [lens]; omega))
 obtain ⟨hce288, hde288_0, hde288_1, hoke288⟩ := (RdS.base (RdS.base hrd225 hB230) hB238).msg hi289
 rw [← getD_at default hi289] at hce288 hde288_0 hde288_1 hoke288
 have hsm290 : ((an22.getD 0 default).vec).length * 8 ≤ 140737488355328 := hde288_0.small
 have hsm291 : ((an22.getD 0 default).evs).length * 96 ≤ 140737488355328 := hde288_1.small
 have hcw292 := hS284.cells hce288 ((RdS.base (RdS.base hrd225 hB230) hB238).foot (ne_of_lt hi289))
 refine sty rfl rfl (ov_load1 (v := .int .i64 ((an22.getD 0 default).kind)) Try.isAgg3 rfl (hcw292.get (j := 0) rfl) ?_)
 have hkn293 : (decide (((an22.getD 0 default).kind) = 4)) = true := by decide +kernel
 refine sty rfl rfl (ov_as (congrArg Value.bool hkn293) (fun K9 h9 => ov_eql (k := .i64) (a := (an22.getD 0 default).kind) (b := 4) rfl rfl h9) ?_)
 refine st (ov_pick_t (v := .bool true) rfl rfl ?_)
 refine st (ov_move (v := .bool true) rfl ?_)
 refine sty rfl rfl (ov_move (v := v156) rfl ?_)
 refine sty rfl rfl (ov_len (n := an26.length) Try.underlying58 rfl (RdS.base (RdS.base (RdS.base hrd217 hB222) hB230) hB238).sl ?_)
 have hkn294 : (decide (((an26.length : Nat) : Int) = 2)) = true := by decide +kernel
 refine sty rfl rfl (ov_as (congrArg Value.bool hkn294) (fun K9 h9 => ov_eql (k := .i64) (a := ((an26.length : Nat) : Int)) (b := 2) rfl rfl h9) ?_)
 refine st (ov_pick_t (v := .bool true) rfl rfl ?_)
 refine st (ov_move (v := .bool true) rfl ?_)
 refine sty rfl rfl (ov_move (v := v156) rfl ?_)
 have hi295 : 0 < an26.length := (by first | omega | (simp only [lens]; omega))
 refine sty rfl rfl (ov_indexAddrN (k := 5) (i := 0) Try.underlying58 Try.sizeOf57 rfl (RdS.base (RdS.base (RdS.base hrd217 hB222) hB230) hB238).sl rfl hi295 ?_)
 refine sty rfl rfl (fd57_0 rfl ?_)
 have hi297 : 0 < an26.length := (by first | omega | (simp only [lens]; omega))
 obtain ⟨hce296, hde296_0, hde296_1, hoke296⟩ := (RdS.base (RdS.base (RdS.base hrd217 hB222) hB230) hB238).msg hi297
 rw [← getD_at default hi297] at hce296 hde296_0 hde296_1 hoke296
 have hsm298 : ((an26.getD 0 default).vec).length * 8 ≤ 140737488355328 := hde296_0.small
 have hsm299 : ((an26.getD 0 default).evs).length * 96 ≤ 140737488355328 := hde296_1.small
 have hcw300 := hS284.cells hce296 ((RdS.base (RdS.base (RdS.base hrd217 hB222) hB230) hB238).foot (ne_of_lt hi297))
 refine sty rfl rfl (ov_load1 (v := .int .i64 ((an26.getD 0 default).kind)) Try.isAgg3 rfl (hcw300.get (j := 0) rfl) ?_)
 have hkn301 : (decide (((an26.getD 0 default).kind) = 3)) = true := by decide +kernel
 refine sty rfl rfl (ov_as (congrArg Value.bool hkn301) (fun K9 h9 => ov_eql (k := .i64) (a := (an26.getD 0 default).kind) (b := 3) rfl rfl h9) ?_)
 refine st (ov_pick_t (v := .bool true) rfl rfl ?_)
 refine st (ov_move (v := .bool true) rfl ?_)
 refine sty rfl rfl (ov_move (v := v156) rfl ?_)
 have hi302 : 1 < an26.length := (by first | omega | (simp only [lens]; omega))
 refine sty rfl rfl (ov_indexAddrN (k := 5) (i := 1) Try.underlying58 Try.sizeOf57 rfl (RdS.base (RdS.base (RdS.base hrd217 hB222) hB230) hB238).sl rfl hi302 ?_)
 refine sty rfl rfl (fd57_0 rfl ?_)
 have hi304 : 1 < an26.length := (by first | omega | (simp only [lens]; omega))
 obtain ⟨hce303, hde303_0, hde303_1, hoke303⟩ := (RdS.base (RdS.base (RdS.base hrd217 hB222) hB230) hB238).msg hi304
 rw [← getD_at default hi304] at hce303 hde303_0 hde303_1 hoke303
 have hsm305 : ((an26.getD 1 default).vec).length * 8 ≤ 140737488355328 := hde303_0.small
 have hsm306 : ((an26.getD 1 default).evs).length * 96 ≤ 140737488355328 := hde303_1.small
 have hcw307 := hS284.cells hce303 ((RdS.base (RdS.base (RdS.base hrd217 hB222) hB230) hB238).foot (ne_of_lt hi304))
 refine sty rfl rfl (ov_load1 (v := .int .i64 ((an26.getD 1 default).kind)) Try.isAgg3 rfl (hcw307.get (j := 0) rfl) ?_)
 have hkn308 : (decide (((an26.getD 1 default).kind) = 2)) = true := by decide +kernel
 refine sty rfl rfl (ov_as (congrArg Value.bool hkn308) (fun K9 h9 => ov_eql (k := .i64) (a := (an26.getD 1 default).kind) (b := 2) rfl rfl h9) ?_)
 refine st (ov_pick_t (v := .bool true) rfl rfl ?_)
 refine st (ov_move (v := .bool true) rfl ?_)
 refine sty rfl rfl (ov_move (v := v193) rfl ?_)
 refine sty rfl rfl (ov_len (n := an30.length) Try.underlying58 rfl (RdS.base (RdS.base (RdS.base (RdS.base hrd209 hB214) hB222) hB230) hB238).sl ?_)
 have hkn309 : (decide (((an30.length : Nat) : Int) = 0)) = true := by decide +kernel
 refine sty rfl rfl (ov_as (congrArg Value.bool hkn309) (fun K9 h9 => ov_eql (k := .i64) (a := ((an30.length : Nat) : Int)) (b := 0) rfl rfl h9) ?_)
 refine st (ov_pick_t (v := .bool true) rfl rfl ?_)
 refine st (ov_assign (v := .bool true) rfl ?_)
 refine st_nil ?_
 refine WP_ret ?_
 refine fin1 Try.results39 (show _ = (.bool true : Value) from rfl) ?_
 have hS310 : Sep G227 w194 ((RowE (α := Msg) own 57 v45 an14) :: (RowE (α := Int) own 3 (.slice (some ⟨b270, 0, none⟩) 2 2) [1, 1]) :: (SetO b12 2 [evZ, evB]) :: (RowE (α := Ev) own 36 v1 [evZ, evB]) :: Rs) w282 := hk240 _ _ hS284
 have hS311 : Sep G219 w194 ((RowE (α := Msg) own 57 v82 an18) :: (RowE (α := Msg) own 57 v45 an14) :: (RowE (α := Int) own 3 (.slice (some ⟨b270, 0, none⟩) 2 2) [1, 1]) :: (SetO b12 2 [evZ, evB]) :: (RowE (α := Ev) own 36 v1 [evZ, evB]) :: Rs) w282 := hk232 _ _ hS310
 have hS312 : Sep G211 w194 ((RowE (α := Msg) own 57 v119 an22) :: (RowE (α := Msg) own 57 v82 an18) :: (RowE (α := Msg) own 57 v45 an14) :: (RowE (α := Int) own 3 (.slice (some ⟨b270, 0, none⟩) 2 2) [1, 1]) :: (SetO b12 2 [evZ, evB]) :: (RowE (α := Ev) own 36 v1 [evZ, evB]) :: Rs) w282 := hk224 _ _ hS311
 have hS313 : Sep G203 w194 ((RowE (α := Msg) own 57 v156 an26) :: (RowE (α := Msg) own 57 v119 an22) :: (RowE (α := Msg) own 57 v82 an18) :: (RowE (α := Msg) own 57 v45 an14) :: (RowE (α := Int) own 3 (.slice (some ⟨b270, 0, none⟩) 2 2) [1, 1]) :: (SetO b12 2 [evZ, evB]) :: (RowE (α := Ev) own 36 v1 [evZ, evB]) :: Rs) w282 := hk216 _ _ hS312
 have hS314 : Sep G W ((RowE (α := Msg) own 57 v193 an30) :: (RowE (α := Msg) own 57 v156 an26) :: (RowE (α := Msg) own 57 v119 an22) :: (RowE (α := Msg) own 57 v82 an18) :: (RowE (α := Msg) own 57 v45 an14) :: (RowE (α := Int) own 3 (.slice (some ⟨b270, 0, none⟩) 2 2) [1, 1]) :: (SetO b12 2 [evZ, evB]) :: (RowE (α := Ev) own 36 v1 [evZ, evB]) :: Rs) w282 := hk208 _ _ hS313
 have hS315 : Sep G W Rs w282 := hS314.sel 8 [] (Nat.le_add_left _ _) rfl rfl
 refine ⟨rfl, hS315⟩

end Go.Proofs.Ytgjgmojjeehieaa
end

section
/- Steps of the proofs of this seat: part T4. -/
set_option linter.unusedSimpArgs false
set_option linter.unusedVariables false
set_option maxRecDepth 8000
set_option maxHeartbeats 4000000
namespace Go.Proofs.Ytgjgmojjeehieaa
open Go.Proofs Go.RowKit

theorem feed_pos {l : List Msg} {i k : Nat} (hi : i < l.length) (hk : k < (l.getD i default).evs.length) (n : Nat) (L : List Ev) :
    addsL n L (evsM (l.take i) ++ (l.getD i default).evs.take k) = addsL n L ((evsM l).take ((evsM (l.take i)).length + k)) ∧ (l.getD i default).evs.getD k default = (evsM l).getD ((evsM (l.take i)).length + k) default ∧ (evsM (l.take i)).length + k < (evsM l).length := by
  obtain ⟨h1, h2, h3⟩ := evsM_at hi hk
  exact ⟨by rw [h2], h3.symm, h1⟩
theorem feed_step {l : List Msg} {i k : Nat} (hk : k < (l.getD i default).evs.length) {n : Nat} {L : List Ev} :
    addL n (addsL n L (evsM (l.take i) ++ (l.getD i default).evs.take k)) ((l.getD i default).evs.getD k default) = addsL n L (evsM (l.take i) ++ (l.getD i default).evs.take (k + 1)) := by
  rw [take_snoc hk, ← List.append_assoc, addsL_snoc]
theorem feed_row {l : List Msg} {i k : Nat} (hi : i < l.length) (hk : k = (l.getD i default).evs.length) : evsM (l.take i) ++ (l.getD i default).evs.take k = evsM (l.take (i + 1)) := by
  rw [evsM_take hi, hk, List.take_length]
theorem feed_nil {l : List Msg} {i : Nat} : evsM (l.take i) = evsM (l.take i) ++ (l.getD i default).evs.take 0 := by simp
theorem feed_all {l : List Msg} {i : Nat} (hi : i = l.length) : evsM (l.take i) = evsM l := by rw [hi, List.take_length]
theorem D_feed {G : Nat → Prop} {W w : World} {Rs : List HP} {b : Nat} {n : Nat} {L : List Ev} {vl : Value} {l : List Msg} (hl : RdS W G vl l) (hS0 : Sep G W ((SetO b n L) :: Rs) w) (hG : Good n L) (hlL : L.length + (evsM l).length ≤ 1000000) (hok : ∀ j, j < (evsM l).length → addE n (addsL n L ((evsM l).take j)) ((evsM l).getD j default) = 0) : Ret Try.prog 52 [.pointer (some ⟨b, 0, none⟩), vl] w (fun r w' => r = (.tuple #[.int .i64 (((evsM l).length : Nat) : Int), .bool true] : Value) ∧ Sep G W ((SetO b n (addsL n L (evsM l))) :: Rs) w') := by
 have hls : l.length * 72 ≤ 140737488355328 := hl.small
 refine Calls_of_WP (args := [.pointer (some ⟨b, 0, none⟩), vl]) Try.func52 rfl rfl ?_
 refine WP_seq ?_
 refine WP_region0 (by kernel_rfl) (fun _ => ?_)
 refine st (ov_assign (v := .int .i64 (0)) rfl ?_)
 refine st (ov_assign (v := .bool false) rfl ?_)
 refine st_nil ?_
 refine WP_seq ?_
 refine WP_region0 (by kernel_rfl) (fun _ => ?_)
 refine st (ov_assign (v := .int .i64 (0)) rfl ?_)
 refine st_nil ?_
 refine WP_seq ?_
 refine WP_seq ?_
 refine WP_region0 (by kernel_rfl) (fun _ => ?_)
 refine st (ov_assign (v := .int .i64 (0)) rfl ?_)
 refine st_nil ?_
 refine WP_block ?_
 refine WP_loop (fun mq σ wq => ∃ (i9 : Nat) (ρ : Env), mq = l.length - i9 ∧ σ = setAll ρ [(0, .pointer (some ⟨b, 0, none⟩)), (1, vl), (6, .int .i64 (((evsM (l.take i9)).length : Nat) : Int)), (7, .int .i64 ((i9 : Nat) : Int))] ∧ (i9 ≤ l.length) ∧ Sep G W ((SetO b n (addsL n L (evsM (l.take i9)))) :: Rs) wq) ⟨0, _, rfl, setAll_self ⟨rfl, rfl, rfl, rfl, trivial⟩, Nat.zero_le _, hS0⟩ ?_
 rintro m2 σ3 w1 ⟨i9, ρl1, rfl, rfl, hi9, hS4⟩
 have hle9 := evsM_le (l := l) (i := i9) hi9
 refine WP_seq ?_
 refine WP_seq ?_
 refine WP_region0 (by kernel_rfl) (fun _ => ?_)
 refine st (ov_move (v := .int .i64 ((i9 : Nat) : Int)) rfl ?_)
 refine st (ov_move (v := vl) rfl ?_)
 refine st (ov_len (n := l.length) Try.underlying58 rfl hl.sl ?_)
 refine st (ov_lss (k := .i64) (a := ((i9 : Nat) : Int)) (b := ((l.length : Nat) : Int)) rfl rfl ?_)
 refine st_nil ?_
 cases hc5 : decide (((i9 : Nat) : Int) < ((l.length : Nat) : Int))
 ·skip
  have hc5r := hc5
  have hc5 := of_decide_eq_false hc5
  refine WP_cond_f rfl ?_
  refine WP_exit ?_
  refine blk_exit ?_
  refine WP_seq ?_
  refine WP_region0 (by kernel_rfl) (fun _ => ?_)
  refine st (ov_move (v := .int .i64 (((evsM (l.take i9)).length : Nat) : Int)) rfl ?_)
  refine st (ov_assign (v := .int .i64 (((evsM (l.take i9)).length : Nat) : Int)) rfl ?_)
  refine st (ov_assign (v := .bool true) rfl ?_)
  refine st_nil ?_
  refine WP_ret ?_
  refine fin2 Try.results52 (show _ = (.int .i64 (((evsM (l.take i9)).length : Nat) : Int) : Value) from rfl) (show _ = (.bool true : Value) from rfl) ?_
  rw [feed_all (l := l) (i := i9) (by omega)] at hS4 ⊢
  refine ⟨rfl, hS4⟩
 ·skip
  have hc5r := hc5
  have hc5 := of_decide_eq_true hc5
  refine WP_cond_t rfl ?_
  refine WP_skip ?_
  refine WP_seq ?_
  refine WP_block ?_
  refine WP_seq ?_
  refine WP_region0 (by kernel_rfl) (fun _ => ?_)
  refine st (ov_assign (v := .int .i64 (0)) rfl ?_)
  refine st_nil ?_
  refine WP_block ?_
  rw [feed_nil (l := l) (i := i9)] at hS4
  have hS6 : Sep G W ((SetO b n (addsL n L (evsM (l.take i9) ++ (l.getD i9 default).evs.take 0))) :: Rs) w1 := hS4
  refine WP_loop (fun mq σ wq => ∃ (k9 : Nat) (ρ : Env), mq = (l.getD i9 default).evs.length - k9 ∧ σ = setAll ρ [(0, .pointer (some ⟨b, 0, none⟩)), (1, vl), (6, .int .i64 ((((evsM (l.take i9)).length + k9) : Nat) : Int)), (7, .int .i64 ((i9 : Nat) : Int)), (8, .int .i64 ((k9 : Nat) : Int))] ∧ (k9 ≤ (l.getD i9 default).evs.length) ∧ Sep G W ((SetO b n (addsL n L (evsM (l.take i9) ++ (l.getD i9 default).evs.take k9))) :: Rs) wq) ⟨0, _, rfl, setAll_self ⟨rfl, rfl, rfl, rfl, rfl, trivial⟩, Nat.zero_le _, hS6⟩ ?_
  rintro m8 σ9 w7 ⟨k9, ρl2, rfl, rfl, hk9, hS10⟩
  refine WP_seq ?_
  refine WP_seq ?_
  refine WP_region0 (by kernel_rfl) (fun _ => ?_)
  refine st (ov_move (v := .int .i64 ((k9 : Nat) : Int)) rfl ?_)
  refine st (ov_move (v := vl) rfl ?_)
  refine st (ov_move (v := .int .i64 ((i9 : Nat) : Int)) rfl ?_)
  have hi11 : i9 < l.length := (by first | omega | (simp only [lens]; omega))
  refine st (ov_indexAddrN (k := 5) (i := i9) Try.underlying58 Try.sizeOf57 rfl hl.sl rfl hi11 ?_)
  refine st (fd57_4 rfl ?_)
  have hi13 : i9 < l.length := (by first | omega | (simp only [lens]; omega))
  obtain ⟨hce12, hde12_0, hde12_1, hoke12⟩ := hl.msg hi13
  rw [← getD_at default hi13] at hce12 hde12_0 hde12_1 hoke12
  have hsm14 : ((l.getD i9 default).vec).length * 8 ≤ 140737488355328 := hde12_0.small
  have hsm15 : ((l.getD i9 default).evs).length * 96 ≤ 140737488355328 := hde12_1.small
  have hcw16 := hS10.cells hce12 (hl.foot (ne_of_lt hi13))
  refine st (ov_load1 (v := (cellV W (sb vl) (so vl + i9 * 5 + 4))) Try.isAgg22 rfl (hcw16.get (j := 4) rfl) ?_)
  refine st (ov_len (n := ((l.getD i9 default).evs).length) Try.underlying22 rfl hde12_1.sl ?_)
  refine st (ov_lss (k := .i64) (a := ((k9 : Nat) : Int)) (b := ((((l.getD i9 default).evs).length : Nat) : Int)) rfl rfl ?_)
  refine st_nil ?_
  cases hc17 : decide (((k9 : Nat) : Int) < ((((l.getD i9 default).evs).length : Nat) : Int))
  ·skip
   have hc17r := hc17
   have hc17 := of_decide_eq_false hc17
   refine WP_cond_f rfl ?_
   refine WP_exit ?_
   refine blk_exit ?_
   have hel9 : (evsM (l.take (i9 + 1))).length = (evsM (l.take i9)).length + k9 := by rw [← feed_row (l := l) (i := i9) (k := k9) (by omega) (by omega), List.length_append, List.length_take]; omega
   rw [feed_row (l := l) (i := i9) (k := k9) (by omega) (by omega)] at hS10
   have hS18 : Sep G W ((SetO b n (addsL n L (evsM (l.take (i9 + 1))))) :: Rs) w7 := hS10
   refine WP_region0 (by kernel_rfl) (fun _ => ?_)
   refine st (ov_move (v := .int .i64 ((i9 : Nat) : Int)) rfl ?_)
   have hr19 : InR ((i9 + 1 : Nat) : Int) := by first | omega | (simp only [lens]; omega)
   refine st (ov_add (r := ((i9 + 1 : Nat) : Int)) (k := .i64) (a := ((i9 : Nat) : Int)) (b := 1) rfl rfl (by rw [show (((i9 : Nat) : Int) + 1 : Int) = ((i9 + 1 : Nat) : Int) by first | omega | (simp only [lens]; omega)]; exact wrap_in hr19) ?_)
   refine st (ov_assign (v := .int .i64 ((i9 + 1 : Nat) : Int)) rfl ?_)
   refine st_nil ?_
   exact ⟨_, by omega, i9 + 1, _, rfl, setAll_self ⟨rfl, rfl, (show _ = (.int .i64 (((evsM (l.take (i9 + 1))).length : Nat) : Int) : Value) from congrArg (fun z : Nat => (Value.int .i64 (z : Int))) hel9.symm), rfl, trivial⟩, by omega, hS18⟩
  ·skip
   have hc17r := hc17
   have hc17 := of_decide_eq_true hc17
   refine WP_cond_t rfl ?_
   refine WP_skip ?_
   refine WP_seq ?_
   refine WP_block ?_
   refine WP_seq ?_
   refine WP_seq ?_
   obtain ⟨hfa9, hfb9, hfc9⟩ := feed_pos (l := l) (i := i9) (k := k9) (by omega) (by omega) n L
   refine WP_region0 (by kernel_rfl) (fun _ => ?_)
   refine st (ov_move (v := .pointer (some ⟨b, 0, none⟩)) rfl ?_)
   refine st (ov_move (v := vl) rfl ?_)
   refine st (ov_move (v := .int .i64 ((i9 : Nat) : Int)) rfl ?_)
   have hi20 : i9 < l.length := (by first | omega | (simp only [lens]; omega))
   refine st (ov_indexAddrN (k := 5) (i := i9) Try.underlying58 Try.sizeOf57 rfl hl.sl rfl hi20 ?_)
   refine st (fd57_4 rfl ?_)
   have hcw22 := hS10.cells hce12 (hl.foot (ne_of_lt hi13))
   refine st (ov_load1 (v := (cellV W (sb vl) (so vl + i9 * 5 + 4))) Try.isAgg22 rfl (hcw22.get (j := 4) rfl) ?_)
   refine st (ov_move (v := .int .i64 ((k9 : Nat) : Int)) rfl ?_)
   have hi23 : k9 < ((l.getD i9 default).evs).length := (by first | omega | (simp only [lens]; omega))
   refine st (ov_indexAddrN (k := 10) (i := k9) Try.underlying22 Try.sizeOf36 rfl hde12_1.sl rfl hi23 ?_)
   have hi25 : k9 < ((l.getD i9 default).evs).length := (by first | omega | (simp only [lens]; omega))
   obtain ⟨hce24, hde24_0, hoke24⟩ := hde12_1.ev hi25
   rw [← getD_at default hi25] at hce24 hde24_0 hoke24
   have hsm26 : ((((l.getD i9 default).evs).getD k9 default).deps).length * 8 ≤ 140737488355328 := hde24_0.small
   have hcw27 := hS10.cells hce24 (hde12_1.foot (ne_of_lt hi25))
   refine st (ov_loadk (k := 10) Try.isAgg36 Try.sizeOf36 rfl rfl hcw27 ?_)
   refine st (ov_call (f := 21) (vals := [.pointer (some ⟨b, 0, none⟩), .agg ((((l.getD i9 default).evs).getD k9 default).cells (cellV W (sb (cellV W (sb vl) (so vl + i9 * 5 + 4))) (so (cellV W (sb vl) (so vl + i9 * 5 + 4)) + k9 * 10 + 3))).toArray]) (cap := []) (show _ = (.func (.func 21) #[] #[] : Value) from rfl) rfl Try.call21 (D_Add (e := (((l.getD i9 default).evs).getD k9 default)) hde24_0 hoke24 hS10 ((Nat.le_trans addsL_len (by rw [List.length_append, List.length_take]; omega))) ((addsL_good hG).len)) ?_)
   rintro _ w30 ⟨L128, rfl, hL129, hS31⟩
   have had9 : addE n (addsL n L (evsM (l.take i9) ++ (l.getD i9 default).evs.take k9)) ((l.getD i9 default).evs.getD k9 default) = 0 := by rw [hfa9, hfb9]; exact hok _ hfc9
   rw [had9]
   rw [hL129.trans (feed_step (by omega))] at hS31
   have hS32 : Sep G W ((SetO b n (addsL n L (evsM (l.take i9) ++ (l.getD i9 default).evs.take (k9 + 1)))) :: Rs) w30 := hS31
   refine st (ov_neq (k := .i64) (a := 0) (b := 0) rfl rfl ?_)
   refine st_nil ?_
   cases hc33 : !decide (0 = 0)
   ·skip
    have hc33r := hc33
    have hc33 := ndec_false hc33
    refine WP_cond_f rfl ?_
    refine WP_skip ?_
    refine WP_region0 (by kernel_rfl) (fun _ => ?_)
    refine st (ov_move (v := .int .i64 ((((evsM (l.take i9)).length + k9) : Nat) : Int)) rfl ?_)
    have hr34 : InR ((((evsM (l.take i9)).length + k9) + 1 : Nat) : Int) := by first | omega | (simp only [lens]; omega)
    refine st (ov_add (r := ((((evsM (l.take i9)).length + k9) + 1 : Nat) : Int)) (k := .i64) (a := ((((evsM (l.take i9)).length + k9) : Nat) : Int)) (b := 1) rfl rfl (by rw [show (((((evsM (l.take i9)).length + k9) : Nat) : Int) + 1 : Int) = ((((evsM (l.take i9)).length + k9) + 1 : Nat) : Int) by first | omega | (simp only [lens]; omega)]; exact wrap_in hr34) ?_)
    refine st (ov_assign (v := .int .i64 ((((evsM (l.take i9)).length + k9) + 1 : Nat) : Int)) rfl ?_)
    refine st_nil ?_
    refine WP_region0 (by kernel_rfl) (fun _ => ?_)
    refine st (ov_move (v := .int .i64 ((k9 : Nat) : Int)) rfl ?_)
    have hr35 : InR ((k9 + 1 : Nat) : Int) := by first | omega | (simp only [lens]; omega)
    refine st (ov_add (r := ((k9 + 1 : Nat) : Int)) (k := .i64) (a := ((k9 : Nat) : Int)) (b := 1) rfl rfl (by rw [show (((k9 : Nat) : Int) + 1 : Int) = ((k9 + 1 : Nat) : Int) by first | omega | (simp only [lens]; omega)]; exact wrap_in hr35) ?_)
    refine st (ov_assign (v := .int .i64 ((k9 + 1 : Nat) : Int)) rfl ?_)
    refine st_nil ?_
    exact ⟨_, by omega, k9 + 1, _, rfl, setAll_self ⟨rfl, rfl, rfl, rfl, rfl, trivial⟩, by omega, hS32⟩
   ·skip
    have hc33r := hc33
    have hc33 := ndec_true hc33
    exact absurd hc33r (by decide)

end Go.Proofs.Ytgjgmojjeehieaa
end

section
/- Steps of the proofs of this seat: part T6. -/
set_option linter.unusedSimpArgs false
set_option linter.unusedVariables false
set_option maxRecDepth 8000
set_option maxHeartbeats 4000000
namespace Go.Proofs.Ytgjgmojjeehieaa
open Go.Proofs Go.RowKit

theorem D_AddM {G : Nat → Prop} {W w : World} {Rs : List HP} {b : Nat} {n : Nat} {L : List Ev} {e : Ev} {de0 : Value} (hde0 : RdS W G de0 e.deps) (oe : e.Ok) (hS0 : Sep G W ((SetO b n L) :: Rs) w) (hL : L.length ≤ 1000000) (hlen : ∀ y ∈ L, y.deps.length = n) : Ret Try.prog 21 [.pointer (some ⟨b, 0, none⟩), .agg (e.cells de0).toArray] w (fun r w' => r = (.int .i64 ((addE n L e)) : Value) ∧ Sep G W ((SetO b n (addL n L e)) :: Rs) w') := by
  refine Ret.mono (D_Add hde0 oe hS0 hL hlen) ?_
  rintro r w' ⟨L1, h1, h2, h3⟩
  subst h2
  exact ⟨h1, h3⟩

end Go.Proofs.Ytgjgmojjeehieaa
end
