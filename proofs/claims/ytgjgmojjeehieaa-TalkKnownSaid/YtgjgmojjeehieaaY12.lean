/- Texts of this claim, part 12. -/
import Derived.Test.YtgjgmojjeehieaaY11
set_option linter.unusedSimpArgs false
set_option linter.unusedVariables false
section
/- Steps of the proofs of this seat: part T8. -/
set_option linter.unusedSimpArgs false
set_option linter.unusedVariables false
set_option maxRecDepth 8000
set_option maxHeartbeats 4000000
namespace Go.Proofs.Ytgjgmojjeehieaa
open Go.Proofs Go.RowKit

def ev40 (i : Nat) : Ev := ⟨0, (i : Int) + 1, (i : Int) + 1, [(i : Int)], 0, 0, 0, 1, 1, 0⟩
def l40 : List Ev := (List.range 40).map ev40
theorem kl40 : laidL 1 l40 = l40 := by decide +kernel
theorem kg40 : Good 1 l40 := by rw [← kl40]; exact laidL_good
def ch40 : List Int := [-9223372036854775808, 0, 1, 2, 31, 32, 33, 9223372036854775807]
def wa40 : List Int := [1, 1, 1, 2, 31, 32, 32, 32]
def an77 : List Msg := [⟨2, 0, 9, [40], []⟩]
def an81 : List Msg := [⟨4, 0, 9, [40], []⟩]
theorem ka40 : ∀ k, k < 8 → ansL 1 l40 0 ⟨2, 9, 0, [], []⟩ (ch40.getD k 0) = [⟨3, 0, 9, [], l40.take (wa40.getD k 0).toNat⟩] ∧ (((l40.take (wa40.getD k 0).toNat).length : Nat) : Int) = wa40.getD k 0 := by decide +kernel
theorem map40 {k : Nat} {e : Ev} (h : e = ev40 k) : (List.range (k + 1)).map ev40 = (List.range k).map ev40 ++ [e] := by rw [List.range_succ, List.map_append, h]; rfl
theorem D_TalkKnown {G : Nat → Prop} {W w : World} {Rs : List HP}  (hS0 : Sep G W Rs w) : Ret Try.prog 14 [] w (fun r w' => r = (.bool true : Value) ∧ Sep G W Rs w') := by
 refine Calls_of_WP (args := []) Try.func14 rfl rfl ?_
 refine WP_seq ?_
 refine WP_region0 (by kernel_rfl) (fun _ => ?_)
 refine st (ov_assign (v := .bool false) rfl ?_)
 refine st_nil ?_
 refine WP_seq ?_
 refine WP_region0 (by kernel_rfl) (fun _ => ?_)
 refine st (ov_assign (v := (.slice none 0 0)) rfl ?_)
 refine st_nil ?_
 refine WP_seq ?_
 refine WP_seq ?_
 refine WP_region0 (by kernel_rfl) (fun _ => ?_)
 refine st (ov_assign (v := .int .i64 (0)) rfl ?_)
 refine st_nil ?_
 refine WP_block ?_
 have hS1 : Sep G W ((RowE (α := Ev) own 36 (.slice none 0 0) ([] : List Ev)) :: Rs) w := hS0.rowNil own 36
 refine WP_loop (fun mq σ wq => ∃ (k : Nat) (vo : Value) (ρ : Env), mq = 40 - k ∧ σ = setAll ρ [(2, .int .i64 ((k : Nat) : Int)), (1, vo)] ∧ (k ≤ 40) ∧ Sep G W ((RowE (α := Ev) own 36 vo ((List.range k).map ev40)) :: Rs) wq) ⟨0, (.slice none 0 0), _, rfl, setAll_self ⟨rfl, rfl, trivial⟩, Nat.zero_le _, hS1⟩ ?_
 rintro m3 σ4 w2 ⟨k, vo, ρl1, rfl, rfl, hkk, hS5⟩
 have hr6 := hS5.row (i := 0) rfl
 have hr6s : ((List.range k).map ev40).length * 96 ≤ 140737488355328 := hr6.2
 have hml9 : ((List.range k).map ev40).length = k := by simp
 refine WP_seq ?_
 refine WP_seq ?_
 refine WP_region0 (by kernel_rfl) (fun _ => ?_)
 refine st (ov_move (v := .int .i64 ((k : Nat) : Int)) rfl ?_)
 refine st (ov_lss (k := .i64) (a := ((k : Nat) : Int)) (b := 40) rfl rfl ?_)
 refine st_nil ?_
 cases hc7 : decide (((k : Nat) : Int) < 40)
 ·skip
  have hc7r := hc7
  have hc7 := of_decide_eq_false hc7
  refine WP_cond_f rfl ?_
  refine WP_exit ?_
  refine blk_exit ?_
  refine WP_seq ?_
  obtain rfl : k = 40 := by omega
  rw [show (List.range 40).map ev40 = l40 from rfl] at hS5
  have hS8 : Sep G W ((RowE (α := Ev) own 36 vo l40) :: Rs) w2 := hS5
  have hr9 := hS8.row (i := 0) rfl
  have hr9s : l40.length * 96 ≤ 140737488355328 := hr9.2
  refine WP_region0 (by kernel_rfl) (fun _ => ?_)
  refine st (ov_move (v := vo) rfl ?_)
  obtain ⟨G10, hA12, hB13, hS14, hk15⟩ := hS8.lend
  have hrd16 := RowE.rd hA12
  have hrd16s : l40.length * 96 ≤ 140737488355328 := hrd16.small
  refine st (ov_call (f := 40) (vals := [.int .i64 (1), vo]) (cap := []) (show _ = (.func (.func 40) #[] #[] : Value) from rfl) rfl Try.call40 (D_laid27 (n := 1) (l := l40) (vl := vo) (by first | omega | (refine ⟨?_, ?_⟩ <;> omega)) hrd16 hS14 (by decide)) ?_)
  rintro _ w18 ⟨b17, rfl, hS19⟩
  have hS20 : Sep G W ((RowE (α := Ev) own 36 vo l40) :: (SetO b17 1 (laidL 1 l40)) :: Rs) w18 := hk15 _ _ hS19
  rw [kl40] at hS20
  have hS21 : Sep G W ((RowE (α := Ev) own 36 vo l40) :: (SetO b17 1 l40) :: Rs) w18 := hS20
  refine st (ov_assign (v := .pointer (some ⟨b17, 0, none⟩)) rfl ?_)
  refine st_nil ?_
  refine WP_seq ?_
  refine WP_seq ?_
  refine WP_region0 (by kernel_rfl) (fun _ => ?_)
  refine st (ov_move (v := .pointer (some ⟨b17, 0, none⟩)) rfl ?_)
  refine st (ov_eqlPtr (b := b17) (o := 0) Try.underlying26 rfl ?_)
  refine st_nil ?_
  refine WP_cond_f rfl ?_
  refine WP_skip ?_
  refine WP_seq ?_
  refine WP_region0 (by kernel_rfl) (fun _ => ?_)
  refine st (ov_buildSlice (k := 1) (parts' := [(0, .int .i64 (-9223372036854775808)), (1, .int .i64 (0)), (2, .int .i64 (1)), (3, .int .i64 (2)), (4, .int .i64 (31)), (5, .int .i64 (32)), (6, .int .i64 (33)), (7, .int .i64 (9223372036854775807))]) (c := #[.int .i64 (-9223372036854775808), .int .i64 (0), .int .i64 (1), .int .i64 (2), .int .i64 (31), .int .i64 (32), .int .i64 (33), .int .i64 (9223372036854775807)]) Try.underlying34 Try.sizeOf3 Try.zeroValue3 (by decide) rfl (by kernel_rfl) ?_)
  intro w24 b23 hn22
  have hS25 : Sep G W ((Blk b23 #[.int .i64 (-9223372036854775808), .int .i64 (0), .int .i64 (1), .int .i64 (2), .int .i64 (31), .int .i64 (32), .int .i64 (33), .int .i64 (9223372036854775807)] 3) :: (RowE (α := Ev) own 36 vo l40) :: (SetO b17 1 l40) :: Rs) w24 := hS21.new hn22
  refine st (ov_assign (v := (.slice (some ⟨b23, 0, none⟩) 8 8)) rfl ?_)
  refine st_nil ?_
  refine WP_seq ?_
  refine WP_region0 (by kernel_rfl) (fun _ => ?_)
  refine st (ov_buildSlice (k := 1) (parts' := [(0, .int .i64 (1)), (1, .int .i64 (1)), (2, .int .i64 (1)), (3, .int .i64 (2)), (4, .int .i64 (31)), (5, .int .i64 (32)), (6, .int .i64 (32)), (7, .int .i64 (32))]) (c := #[.int .i64 (1), .int .i64 (1), .int .i64 (1), .int .i64 (2), .int .i64 (31), .int .i64 (32), .int .i64 (32), .int .i64 (32)]) Try.underlying34 Try.sizeOf3 Try.zeroValue3 (by decide) rfl (by kernel_rfl) ?_)
  intro w28 b27 hn26
  have hS29 : Sep G W ((Blk b27 #[.int .i64 (1), .int .i64 (1), .int .i64 (1), .int .i64 (2), .int .i64 (31), .int .i64 (32), .int .i64 (32), .int .i64 (32)] 3) :: (Blk b23 #[.int .i64 (-9223372036854775808), .int .i64 (0), .int .i64 (1), .int .i64 (2), .int .i64 (31), .int .i64 (32), .int .i64 (33), .int .i64 (9223372036854775807)] 3) :: (RowE (α := Ev) own 36 vo l40) :: (SetO b17 1 l40) :: Rs) w28 := hS25.new hn26
  refine st (ov_assign (v := (.slice (some ⟨b27, 0, none⟩) 8 8)) rfl ?_)
  refine st_nil ?_
  refine WP_seq ?_
  refine WP_seq ?_
  have hS30 : Sep G W ((RowE (α := Int) own 3 (.slice (some ⟨b27, 0, none⟩) 8 8) [1, 1, 1, 2, 31, 32, 32, 32]) :: (Blk b23 #[.int .i64 (-9223372036854775808), .int .i64 (0), .int .i64 (1), .int .i64 (2), .int .i64 (31), .int .i64 (32), .int .i64 (33), .int .i64 (9223372036854775807)] 3) :: (RowE (α := Ev) own 36 vo l40) :: (SetO b17 1 l40) :: Rs) w28 := Sep.blkRow (src := own) (l := [1, 1, 1, 2, 31, 32, 32, 32]) (css := [[.int .i64 (1)], [.int .i64 (1)], [.int .i64 (1)], [.int .i64 (2)], [.int .i64 (31)], [.int .i64 (32)], [.int .i64 (32)], [.int .i64 (32)]]) hS29 rfl ⟨fun _ _ => ⟨rfl, (by decide)⟩, fun _ _ => ⟨rfl, (by decide)⟩, fun _ _ => ⟨rfl, (by decide)⟩, fun _ _ => ⟨rfl, (by decide)⟩, fun _ _ => ⟨rfl, (by decide)⟩, fun _ _ => ⟨rfl, (by decide)⟩, fun _ _ => ⟨rfl, (by decide)⟩, fun _ _ => ⟨rfl, (by decide)⟩, trivial⟩ (by first | decide | (simp only [List.length_cons, List.length_nil]; decide)) (show 8 ≤ maxLen by decide)
  have hr31 := hS30.row (i := 0) rfl
  have hr31s : [1, 1, 1, 2, 31, 32, 32, 32].length * 8 ≤ 140737488355328 := hr31.2
  have hS32 : Sep G W ((Blk b23 #[.int .i64 (-9223372036854775808), .int .i64 (0), .int .i64 (1), .int .i64 (2), .int .i64 (31), .int .i64 (32), .int .i64 (33), .int .i64 (9223372036854775807)] 3) :: (RowE (α := Int) own 3 (.slice (some ⟨b27, 0, none⟩) 8 8) [1, 1, 1, 2, 31, 32, 32, 32]) :: (RowE (α := Ev) own 36 vo l40) :: (SetO b17 1 l40) :: Rs) w28 := hS30.sel 4 [1, 0, 2, 3] (Nat.le_add_left _ _) rfl rfl
  have hS33 : Sep G W ((RowE (α := Int) own 3 (.slice (some ⟨b23, 0, none⟩) 8 8) [-9223372036854775808, 0, 1, 2, 31, 32, 33, 9223372036854775807]) :: (RowE (α := Int) own 3 (.slice (some ⟨b27, 0, none⟩) 8 8) [1, 1, 1, 2, 31, 32, 32, 32]) :: (RowE (α := Ev) own 36 vo l40) :: (SetO b17 1 l40) :: Rs) w28 := Sep.blkRow (src := own) (l := [-9223372036854775808, 0, 1, 2, 31, 32, 33, 9223372036854775807]) (css := [[.int .i64 (-9223372036854775808)], [.int .i64 (0)], [.int .i64 (1)], [.int .i64 (2)], [.int .i64 (31)], [.int .i64 (32)], [.int .i64 (33)], [.int .i64 (9223372036854775807)]]) hS32 rfl ⟨fun _ _ => ⟨rfl, (by decide)⟩, fun _ _ => ⟨rfl, (by decide)⟩, fun _ _ => ⟨rfl, (by decide)⟩, fun _ _ => ⟨rfl, (by decide)⟩, fun _ _ => ⟨rfl, (by decide)⟩, fun _ _ => ⟨rfl, (by decide)⟩, fun _ _ => ⟨rfl, (by decide)⟩, fun _ _ => ⟨rfl, (by decide)⟩, trivial⟩ (by first | decide | (simp only [List.length_cons, List.length_nil]; decide)) (show 8 ≤ maxLen by decide)
  have hr34 := hS33.row (i := 0) rfl
  have hr34s : [-9223372036854775808, 0, 1, 2, 31, 32, 33, 9223372036854775807].length * 8 ≤ 140737488355328 := hr34.2
  have hx4 : [-9223372036854775808, 0, 1, 2, 31, 32, 33, 9223372036854775807] = ch40 := rfl
  rw [hx4] at hS33
  have hS35 : Sep G W ((RowE (α := Int) own 3 (.slice (some ⟨b23, 0, none⟩) 8 8) ch40) :: (RowE (α := Int) own 3 (.slice (some ⟨b27, 0, none⟩) 8 8) [1, 1, 1, 2, 31, 32, 32, 32]) :: (RowE (α := Ev) own 36 vo l40) :: (SetO b17 1 l40) :: Rs) w28 := hS33
  have hr36 := hS35.row (i := 0) rfl
  have hr36s : ch40.length * 8 ≤ 140737488355328 := hr36.2
  have hx5 : [1, 1, 1, 2, 31, 32, 32, 32] = wa40 := rfl
  rw [hx5] at hS35
  have hS37 : Sep G W ((RowE (α := Int) own 3 (.slice (some ⟨b23, 0, none⟩) 8 8) ch40) :: (RowE (α := Int) own 3 (.slice (some ⟨b27, 0, none⟩) 8 8) wa40) :: (RowE (α := Ev) own 36 vo l40) :: (SetO b17 1 l40) :: Rs) w28 := hS35
  have hr38 := hS37.row (i := 1) rfl
  have hr38s : wa40.length * 8 ≤ 140737488355328 := hr38.2
  have hS39 : Sep G W ((RowE (α := Ev) own 36 vo l40) :: (RowE (α := Int) own 3 (.slice (some ⟨b23, 0, none⟩) 8 8) ch40) :: (RowE (α := Int) own 3 (.slice (some ⟨b27, 0, none⟩) 8 8) wa40) :: (SetO b17 1 l40) :: Rs) w28 := hS37.sel 4 [2, 0, 1, 3] (Nat.le_add_left _ _) rfl rfl
  obtain ⟨G40, hA42, hB43, hS44, hk45⟩ := hS39.lend
  have hrd46 := RowE.rd hA42
  have hrd46s : l40.length * 96 ≤ 140737488355328 := hrd46.small
  obtain ⟨G47, hA49, hB50, hS51, hk52⟩ := hS44.lend
  have hrd53 := RowE.rd hA49
  have hrd53s : ch40.length * 8 ≤ 140737488355328 := hrd53.small
  obtain ⟨G54, hA56, hB57, hS58, hk59⟩ := hS51.lend
  have hrd60 := RowE.rd hA56
  have hrd60s : wa40.length * 8 ≤ 140737488355328 := hrd60.small
  have hle9 : ch40.length = 8 ∧ wa40.length = 8 := ⟨rfl, rfl⟩
  have hll9 : l40.length = 40 := rfl
  refine WP_region0 (by kernel_rfl) (fun _ => ?_)
  refine st (ov_assign (v := .int .i64 (0)) rfl ?_)
  refine st_nil ?_
  refine WP_block ?_
  refine WP_loop (fun mq σ wq => ∃ (k9 : Nat) (ρ : Env), mq = ch40.length - k9 ∧ σ = setAll ρ [(1, vo), (3, .pointer (some ⟨b17, 0, none⟩)), (4, (.slice (some ⟨b23, 0, none⟩) 8 8)), (5, (.slice (some ⟨b27, 0, none⟩) 8 8)), (6, .int .i64 ((k9 : Nat) : Int))] ∧ (k9 ≤ ch40.length) ∧ Sep G54 w28 ((SetO b17 1 l40) :: Rs) wq) ⟨0, _, rfl, setAll_self ⟨rfl, rfl, rfl, rfl, rfl, trivial⟩, Nat.zero_le _, hS58⟩ ?_
  rintro m62 σ63 w61 ⟨k9, ρl2, rfl, rfl, hk9, hS64⟩
  refine WP_seq ?_
  refine WP_seq ?_
  refine WP_region0 (by kernel_rfl) (fun _ => ?_)
  refine st (ov_move (v := .int .i64 ((k9 : Nat) : Int)) rfl ?_)
  refine st (ov_move (v := (.slice (some ⟨b23, 0, none⟩) 8 8)) rfl ?_)
  refine st (ov_len (n := 8) Try.underlying34 rfl (⟨_, 8, rfl, Nat.le_refl _, fun _ => ⟨_, _, rfl⟩⟩ : IsSl _ 8) ?_)
  refine st (ov_lss (k := .i64) (a := ((k9 : Nat) : Int)) (b := ((8 : Nat) : Int)) rfl rfl ?_)
  refine st_nil ?_
  cases hc65 : decide (((k9 : Nat) : Int) < ((8 : Nat) : Int))
  ·skip
   have hc65r := hc65
   have hc65 := of_decide_eq_false hc65
   refine WP_cond_f rfl ?_
   refine WP_exit ?_
   refine blk_exit ?_
   refine WP_seq ?_
   refine WP_region0 (by kernel_rfl) (fun _ => ?_)
   refine st (ov_move (v := .pointer (some ⟨b17, 0, none⟩)) rfl ?_)
   refine st (ov_buildSlice (k := 1) (parts' := [(0, .int .i64 (40)), (1, .int .i64 (0)), (2, .int .i64 (5))]) (c := #[.int .i64 (40), .int .i64 (0), .int .i64 (5)]) Try.underlying34 Try.sizeOf3 Try.zeroValue3 (by decide) rfl (by kernel_rfl) ?_)
   intro w68 b67 hn66
   have hS69 : Sep G54 w28 ((Blk b67 #[.int .i64 (40), .int .i64 (0), .int .i64 (5)] 3) :: (SetO b17 1 l40) :: Rs) w68 := hS64.new hn66
   have hS70 : Sep G54 w28 ((RowE (α := Int) own 3 (.slice (some ⟨b67, 0, none⟩) 3 3) [40, 0, 5]) :: (SetO b17 1 l40) :: Rs) w68 := Sep.blkRow (src := own) (l := [40, 0, 5]) (css := [[.int .i64 (40)], [.int .i64 (0)], [.int .i64 (5)]]) hS69 rfl ⟨fun _ _ => ⟨rfl, (by decide)⟩, fun _ _ => ⟨rfl, (by decide)⟩, fun _ _ => ⟨rfl, (by decide)⟩, trivial⟩ (by first | decide | (simp only [List.length_cons, List.length_nil]; decide)) (show 3 ≤ maxLen by decide)
   have hr71 := hS70.row (i := 0) rfl
   have hr71s : [40, 0, 5].length * 8 ≤ 140737488355328 := hr71.2
   have ok72 : Msg.Ok (⟨1, 9, 0, [40, 0, 5], []⟩ : Msg) := ⟨(show InR (1) from (by decide)), (show InR (9) from (by decide)), (show InR (0) from (by decide))⟩
   refine st (ov_build (parts' := [(0, .int .i64 (1)), (1, .int .i64 (9)), (3, (.slice (some ⟨b67, 0, none⟩) 3 3))]) (v := .agg ((⟨1, 9, 0, [40, 0, 5], []⟩ : Msg).cells (.slice (some ⟨b67, 0, none⟩) 3 3) (.slice none 0 0)).toArray) rfl (by simp [Instr.build, Instr.fill, go_sem, Ev.cells, Msg.cells]) ?_)
   have hS73 : Sep G54 w28 ((SetO b17 1 l40) :: (RowE (α := Int) own 3 (.slice (some ⟨b67, 0, none⟩) 3 3) [40, 0, 5]) :: Rs) w68 := hS70.sel 2 [1, 0] (Nat.le_add_left _ _) rfl rfl
   obtain ⟨G74, hA76, hB77, hS78, hk79⟩ := hS73.lend
   obtain ⟨vv80, m81, R82, hb83, hv84, hr85⟩ := SetO.sh hA76
   have hsm86 : (vecE 1 l40).length * 8 ≤ 140737488355328 := hv84.small
   obtain ⟨G87, hA89, hB90, hS91, hk92⟩ := hS78.lend
   have hrd93 := RowE.rd hA89
   have hrd93s : [40, 0, 5].length * 8 ≤ 140737488355328 := hrd93.small
   refine st (ov_call (f := 41) (vals := [.pointer (some ⟨b17, 0, none⟩), .int .i64 (0), .agg ((⟨1, 9, 0, [40, 0, 5], []⟩ : Msg).cells (.slice (some ⟨b67, 0, none⟩) 3 3) (.slice none 0 0)).toArray, .int .i64 (3)]) (cap := []) (show _ = (.func (.func 41) #[] #[] : Value) from rfl) rfl Try.call41 (D_Answer (self := 0) (m := (⟨1, 9, 0, [40, 0, 5], []⟩ : Msg)) (chunk := 3) (HP.base hA76 hB90) (by decide) hrd93 (RdS.nil _ _) ok72 (by decide) hS91 (kg40.ids) (kg40.srt) (by decide)) ?_)
   rintro v94 w95 ⟨_, rfl, hS96⟩
   have hr97 := hS96.row (i := 0) rfl
   have hr97s : (ansL 1 l40 0 (⟨1, 9, 0, [40, 0, 5], []⟩ : Msg) 3).length * 72 ≤ 140737488355328 := hr97.2
   have hS98 : Sep G74 w68 ((RowE (α := Int) own 3 (.slice (some ⟨b67, 0, none⟩) 3 3) [40, 0, 5]) :: (RowE (α := Msg) own 57 v94 (ansL 1 l40 0 (⟨1, 9, 0, [40, 0, 5], []⟩ : Msg) 3)) :: Rs) w95 := hk92 _ _ hS96
   have hS99 : Sep G54 w28 ((SetO b17 1 l40) :: (RowE (α := Int) own 3 (.slice (some ⟨b67, 0, none⟩) 3 3) [40, 0, 5]) :: (RowE (α := Msg) own 57 v94 (ansL 1 l40 0 (⟨1, 9, 0, [40, 0, 5], []⟩ : Msg) 3)) :: Rs) w95 := hk79 _ _ hS98
   rw [show ansL 1 l40 0 (⟨1, 9, 0, [40, 0, 5], []⟩ : Msg) 3 = (an77 : List Msg) from by decide +kernel] at hS99
   have hS100 : Sep G54 w28 ((SetO b17 1 l40) :: (RowE (α := Int) own 3 (.slice (some ⟨b67, 0, none⟩) 3 3) [40, 0, 5]) :: (RowE (α := Msg) own 57 v94 an77) :: Rs) w95 := hS99
   have hr101 := hS100.row (i := 2) rfl
   have hr101s : an77.length * 72 ≤ 140737488355328 := hr101.2
   refine st (ov_assign (v := v94) rfl ?_)
   refine st_nil ?_
   refine WP_seq ?_
   refine WP_region0 (by kernel_rfl) (fun _ => ?_)
   refine st (ov_move (v := .pointer (some ⟨b17, 0, none⟩)) rfl ?_)
   refine st (ov_buildSlice (k := 1) (parts' := [(0, .int .i64 (40)), (1, .int .i64 (-7))]) (c := #[.int .i64 (40), .int .i64 (-7)]) Try.underlying34 Try.sizeOf3 Try.zeroValue3 (by decide) rfl (by kernel_rfl) ?_)
   intro w104 b103 hn102
   have hS105 : Sep G54 w28 ((Blk b103 #[.int .i64 (40), .int .i64 (-7)] 3) :: (SetO b17 1 l40) :: (RowE (α := Int) own 3 (.slice (some ⟨b67, 0, none⟩) 3 3) [40, 0, 5]) :: (RowE (α := Msg) own 57 v94 an77) :: Rs) w104 := hS100.new hn102
   have hS106 : Sep G54 w28 ((RowE (α := Int) own 3 (.slice (some ⟨b103, 0, none⟩) 2 2) [40, -7]) :: (SetO b17 1 l40) :: (RowE (α := Int) own 3 (.slice (some ⟨b67, 0, none⟩) 3 3) [40, 0, 5]) :: (RowE (α := Msg) own 57 v94 an77) :: Rs) w104 := Sep.blkRow (src := own) (l := [40, -7]) (css := [[.int .i64 (40)], [.int .i64 (-7)]]) hS105 rfl ⟨fun _ _ => ⟨rfl, (by decide)⟩, fun _ _ => ⟨rfl, (by decide)⟩, trivial⟩ (by first | decide | (simp only [List.length_cons, List.length_nil]; decide)) (show 2 ≤ maxLen by decide)
   have hr107 := hS106.row (i := 0) rfl
   have hr107s : [40, -7].length * 8 ≤ 140737488355328 := hr107.2
   have ok108 : Msg.Ok (⟨1, 9, 0, [40, -7], []⟩ : Msg) := ⟨(show InR (1) from (by decide)), (show InR (9) from (by decide)), (show InR (0) from (by decide))⟩
   refine st (ov_build (parts' := [(0, .int .i64 (1)), (1, .int .i64 (9)), (3, (.slice (some ⟨b103, 0, none⟩) 2 2))]) (v := .agg ((⟨1, 9, 0, [40, -7], []⟩ : Msg).cells (.slice (some ⟨b103, 0, none⟩) 2 2) (.slice none 0 0)).toArray) rfl (by simp [Instr.build, Instr.fill, go_sem, Ev.cells, Msg.cells]) ?_)
   have hS109 : Sep G54 w28 ((SetO b17 1 l40) :: (RowE (α := Int) own 3 (.slice (some ⟨b103, 0, none⟩) 2 2) [40, -7]) :: (RowE (α := Int) own 3 (.slice (some ⟨b67, 0, none⟩) 3 3) [40, 0, 5]) :: (RowE (α := Msg) own 57 v94 an77) :: Rs) w104 := hS106.sel 4 [1, 0, 2, 3] (Nat.le_add_left _ _) rfl rfl
   obtain ⟨G110, hA112, hB113, hS114, hk115⟩ := hS109.lend
   obtain ⟨vv116, m117, R118, hb119, hv120, hr121⟩ := SetO.sh hA112
   have hsm122 : (vecE 1 l40).length * 8 ≤ 140737488355328 := hv120.small
   obtain ⟨G123, hA125, hB126, hS127, hk128⟩ := hS114.lend
   have hrd129 := RowE.rd hA125
   have hrd129s : [40, -7].length * 8 ≤ 140737488355328 := hrd129.small
   refine st (ov_call (f := 41) (vals := [.pointer (some ⟨b17, 0, none⟩), .int .i64 (0), .agg ((⟨1, 9, 0, [40, -7], []⟩ : Msg).cells (.slice (some ⟨b103, 0, none⟩) 2 2) (.slice none 0 0)).toArray, .int .i64 (3)]) (cap := []) (show _ = (.func (.func 41) #[] #[] : Value) from rfl) rfl Try.call41 (D_Answer (self := 0) (m := (⟨1, 9, 0, [40, -7], []⟩ : Msg)) (chunk := 3) (HP.base hA112 hB126) (by decide) hrd129 (RdS.nil _ _) ok108 (by decide) hS127 (kg40.ids) (kg40.srt) (by decide)) ?_)
   rintro v130 w131 ⟨_, rfl, hS132⟩
   have hr133 := hS132.row (i := 0) rfl
   have hr133s : (ansL 1 l40 0 (⟨1, 9, 0, [40, -7], []⟩ : Msg) 3).length * 72 ≤ 140737488355328 := hr133.2
   have hS134 : Sep G110 w104 ((RowE (α := Int) own 3 (.slice (some ⟨b103, 0, none⟩) 2 2) [40, -7]) :: (RowE (α := Msg) own 57 v130 (ansL 1 l40 0 (⟨1, 9, 0, [40, -7], []⟩ : Msg) 3)) :: (RowE (α := Int) own 3 (.slice (some ⟨b67, 0, none⟩) 3 3) [40, 0, 5]) :: (RowE (α := Msg) own 57 v94 an77) :: Rs) w131 := hk128 _ _ hS132
   have hS135 : Sep G54 w28 ((SetO b17 1 l40) :: (RowE (α := Int) own 3 (.slice (some ⟨b103, 0, none⟩) 2 2) [40, -7]) :: (RowE (α := Msg) own 57 v130 (ansL 1 l40 0 (⟨1, 9, 0, [40, -7], []⟩ : Msg) 3)) :: (RowE (α := Int) own 3 (.slice (some ⟨b67, 0, none⟩) 3 3) [40, 0, 5]) :: (RowE (α := Msg) own 57 v94 an77) :: Rs) w131 := hk115 _ _ hS134
   rw [show ansL 1 l40 0 (⟨1, 9, 0, [40, -7], []⟩ : Msg) 3 = (an81 : List Msg) from by decide +kernel] at hS135
   have hS136 : Sep G54 w28 ((SetO b17 1 l40) :: (RowE (α := Int) own 3 (.slice (some ⟨b103, 0, none⟩) 2 2) [40, -7]) :: (RowE (α := Msg) own 57 v130 an81) :: (RowE (α := Int) own 3 (.slice (some ⟨b67, 0, none⟩) 3 3) [40, 0, 5]) :: (RowE (α := Msg) own 57 v94 an77) :: Rs) w131 := hS135
   have hr137 := hS136.row (i := 2) rfl
   have hr137s : an81.length * 72 ≤ 140737488355328 := hr137.2
   refine st (ov_assign (v := v130) rfl ?_)
   refine st_nil ?_
   refine WP_seq ?_
   have hS138 : Sep G54 w28 ((RowE (α := Msg) own 57 v94 an77) :: (SetO b17 1 l40) :: (RowE (α := Int) own 3 (.slice (some ⟨b103, 0, none⟩) 2 2) [40, -7]) :: (RowE (α := Msg) own 57 v130 an81) :: (RowE (α := Int) own 3 (.slice (some ⟨b67, 0, none⟩) 3 3) [40, 0, 5]) :: Rs) w131 := hS136.sel 5 [4, 0, 1, 2, 3] (Nat.le_add_left _ _) rfl rfl
   obtain ⟨G139, hA141, hB142, hS143, hk144⟩ := hS138.lend
   have hrd145 := RowE.rd hA141
   have hrd145s : an77.length * 72 ≤ 140737488355328 := hrd145.small
   have hS146 : Sep G139 w131 ((RowE (α := Msg) own 57 v130 an81) :: (SetO b17 1 l40) :: (RowE (α := Int) own 3 (.slice (some ⟨b103, 0, none⟩) 2 2) [40, -7]) :: (RowE (α := Int) own 3 (.slice (some ⟨b67, 0, none⟩) 3 3) [40, 0, 5]) :: Rs) w131 := hS143.sel 4 [2, 0, 1, 3] (Nat.le_add_left _ _) rfl rfl
   obtain ⟨G147, hA149, hB150, hS151, hk152⟩ := hS146.lend
   have hrd153 := RowE.rd hA149
   have hrd153s : an81.length * 72 ≤ 140737488355328 := hrd153.small
   have hla9 : an77.length = 1 ∧ an81.length = 1 := ⟨rfl, rfl⟩
   refine WP_region (by kernel_rfl) ?_
   refine st (ov_move (v := v94) rfl ?_)
   refine st (ov_len (n := an77.length) Try.underlying58 rfl (RdS.base hrd145 hB150).sl ?_)
   have hkn154 : (decide (((an77.length : Nat) : Int) = 1)) = true := by decide +kernel
   refine st (ov_as (congrArg Value.bool hkn154) (fun K9 h9 => ov_eql (k := .i64) (a := ((an77.length : Nat) : Int)) (b := 1) rfl rfl h9) ?_)
   refine st (ov_move (v := .bool true) rfl ?_)
   refine sty rfl rfl (ov_move (v := v94) rfl ?_)
   have hi155 : 0 < an77.length := (by first | omega | (simp only [lens]; omega))
   refine sty rfl rfl (ov_indexAddrN (k := 5) (i := 0) Try.underlying58 Try.sizeOf57 rfl (RdS.base hrd145 hB150).sl rfl hi155 ?_)
   refine sty rfl rfl (fd57_0 rfl ?_)
   have hi157 : 0 < an77.length := (by first | omega | (simp only [lens]; omega))
   obtain ⟨hce156, hde156_0, hde156_1, hoke156⟩ := (RdS.base hrd145 hB150).msg hi157
   rw [← getD_at default hi157] at hce156 hde156_0 hde156_1 hoke156
   have hsm158 : ((an77.getD 0 default).vec).length * 8 ≤ 140737488355328 := hde156_0.small
   have hsm159 : ((an77.getD 0 default).evs).length * 96 ≤ 140737488355328 := hde156_1.small
   have hcw160 := hS151.cells hce156 ((RdS.base hrd145 hB150).foot (ne_of_lt hi157))
   refine sty rfl rfl (ov_load1 (v := .int .i64 ((an77.getD 0 default).kind)) Try.isAgg3 rfl (hcw160.get (j := 0) rfl) ?_)
   have hkn161 : (decide (((an77.getD 0 default).kind) = 2)) = true := by decide +kernel
   refine sty rfl rfl (ov_as (congrArg Value.bool hkn161) (fun K9 h9 => ov_eql (k := .i64) (a := (an77.getD 0 default).kind) (b := 2) rfl rfl h9) ?_)
   refine st (ov_pick_t (v := .bool true) rfl rfl ?_)
   refine st (ov_move (v := .bool true) rfl ?_)
   refine sty rfl rfl (ov_move (v := v130) rfl ?_)
   refine sty rfl rfl (ov_len (n := an81.length) Try.underlying58 rfl hrd153.sl ?_)
   have hkn162 : (decide (((an81.length : Nat) : Int) = 1)) = true := by decide +kernel
   refine sty rfl rfl (ov_as (congrArg Value.bool hkn162) (fun K9 h9 => ov_eql (k := .i64) (a := ((an81.length : Nat) : Int)) (b := 1) rfl rfl h9) ?_)
   refine st (ov_pick_t (v := .bool true) rfl rfl ?_)
   refine st (ov_move (v := .bool true) rfl ?_)
   refine sty rfl rfl (ov_move (v := v130) rfl ?_)
   have hi163 : 0 < an81.length := (by first | omega | (simp only [lens]; omega))
   refine sty rfl rfl (ov_indexAddrN (k := 5) (i := 0) Try.underlying58 Try.sizeOf57 rfl hrd153.sl rfl hi163 ?_)
   refine sty rfl rfl (fd57_0 rfl ?_)
   have hi165 : 0 < an81.length := (by first | omega | (simp only [lens]; omega))
   obtain ⟨hce164, hde164_0, hde164_1, hoke164⟩ := hrd153.msg hi165
   rw [← getD_at default hi165] at hce164 hde164_0 hde164_1 hoke164
   have hsm166 : ((an81.getD 0 default).vec).length * 8 ≤ 140737488355328 := hde164_0.small
   have hsm167 : ((an81.getD 0 default).evs).length * 96 ≤ 140737488355328 := hde164_1.small
   have hcw168 := hS151.cells hce164 (hrd153.foot (ne_of_lt hi165))
   refine sty rfl rfl (ov_load1 (v := .int .i64 ((an81.getD 0 default).kind)) Try.isAgg3 rfl (hcw168.get (j := 0) rfl) ?_)
   have hkn169 : (decide (((an81.getD 0 default).kind) = 4)) = true := by decide +kernel
   refine sty rfl rfl (ov_as (congrArg Value.bool hkn169) (fun K9 h9 => ov_eql (k := .i64) (a := (an81.getD 0 default).kind) (b := 4) rfl rfl h9) ?_)
   refine st (ov_pick_t (v := .bool true) rfl rfl ?_)
   refine st (ov_move (v := .bool true) rfl ?_)
   refine sty rfl rfl (ov_call (f := 39) (vals := []) (cap := []) (show _ = (.func (.func 39) #[] #[] : Value) from rfl) rfl Try.call39 (D_known27  hS151) ?_)
   rintro _ w170 ⟨rfl, hS171⟩
   refine st (ov_pick_t (v := .bool true) rfl rfl ?_)
   refine st (ov_assign (v := .bool true) rfl ?_)
   refine st_nil ?_
   refine WP_ret ?_
   refine fin1 Try.results14 (show _ = (.bool true : Value) from rfl) ?_
   have hS172 : Sep G139 w131 ((RowE (α := Msg) own 57 v130 an81) :: (SetO b17 1 l40) :: (RowE (α := Int) own 3 (.slice (some ⟨b103, 0, none⟩) 2 2) [40, -7]) :: (RowE (α := Int) own 3 (.slice (some ⟨b67, 0, none⟩) 3 3) [40, 0, 5]) :: Rs) w170 := hk152 _ _ hS171
   have hS173 : Sep G54 w28 ((RowE (α := Msg) own 57 v94 an77) :: (RowE (α := Msg) own 57 v130 an81) :: (SetO b17 1 l40) :: (RowE (α := Int) own 3 (.slice (some ⟨b103, 0, none⟩) 2 2) [40, -7]) :: (RowE (α := Int) own 3 (.slice (some ⟨b67, 0, none⟩) 3 3) [40, 0, 5]) :: Rs) w170 := hk144 _ _ hS172
   have hS174 : Sep G47 w28 ((RowE (α := Int) own 3 (.slice (some ⟨b27, 0, none⟩) 8 8) wa40) :: (RowE (α := Msg) own 57 v94 an77) :: (RowE (α := Msg) own 57 v130 an81) :: (SetO b17 1 l40) :: (RowE (α := Int) own 3 (.slice (some ⟨b103, 0, none⟩) 2 2) [40, -7]) :: (RowE (α := Int) own 3 (.slice (some ⟨b67, 0, none⟩) 3 3) [40, 0, 5]) :: Rs) w170 := hk59 _ _ hS173
   have hS175 : Sep G40 w28 ((RowE (α := Int) own 3 (.slice (some ⟨b23, 0, none⟩) 8 8) ch40) :: (RowE (α := Int) own 3 (.slice (some ⟨b27, 0, none⟩) 8 8) wa40) :: (RowE (α := Msg) own 57 v94 an77) :: (RowE (α := Msg) own 57 v130 an81) :: (SetO b17 1 l40) :: (RowE (α := Int) own 3 (.slice (some ⟨b103, 0, none⟩) 2 2) [40, -7]) :: (RowE (α := Int) own 3 (.slice (some ⟨b67, 0, none⟩) 3 3) [40, 0, 5]) :: Rs) w170 := hk52 _ _ hS174
   have hS176 : Sep G W ((RowE (α := Ev) own 36 vo l40) :: (RowE (α := Int) own 3 (.slice (some ⟨b23, 0, none⟩) 8 8) ch40) :: (RowE (α := Int) own 3 (.slice (some ⟨b27, 0, none⟩) 8 8) wa40) :: (RowE (α := Msg) own 57 v94 an77) :: (RowE (α := Msg) own 57 v130 an81) :: (SetO b17 1 l40) :: (RowE (α := Int) own 3 (.slice (some ⟨b103, 0, none⟩) 2 2) [40, -7]) :: (RowE (α := Int) own 3 (.slice (some ⟨b67, 0, none⟩) 3 3) [40, 0, 5]) :: Rs) w170 := hk45 _ _ hS175
   have hS177 : Sep G W Rs w170 := hS176.sel 8 [] (Nat.le_add_left _ _) rfl rfl
   refine ⟨rfl, hS177⟩
  ·skip
   have hc65r := hc65
   have hc65 := of_decide_eq_true hc65
   refine WP_cond_t rfl ?_
   refine WP_skip ?_
   refine WP_seq ?_
   refine WP_block ?_
   refine WP_seq ?_
   refine WP_region0 (by kernel_rfl) (fun _ => ?_)
   refine st (ov_move (v := .pointer (some ⟨b17, 0, none⟩)) rfl ?_)
   have ok178 : Msg.Ok (⟨2, 9, 0, [], []⟩ : Msg) := ⟨(show InR (2) from (by decide)), (show InR (9) from (by decide)), (show InR (0) from (by decide))⟩
   refine st (ov_build (parts' := [(0, .int .i64 (2)), (1, .int .i64 (9))]) (v := .agg ((⟨2, 9, 0, [], []⟩ : Msg).cells (.slice none 0 0) (.slice none 0 0)).toArray) rfl (by simp [Instr.build, Instr.fill, go_sem, Ev.cells, Msg.cells]) ?_)
   refine st (ov_move (v := (.slice (some ⟨b23, 0, none⟩) 8 8)) rfl ?_)
   refine st (ov_move (v := .int .i64 ((k9 : Nat) : Int)) rfl ?_)
   have hi179 : k9 < ch40.length := (by first | omega | (simp only [lens]; omega))
   refine st (ov_indexAddrN (k := 1) (i := k9) Try.underlying34 Try.sizeOf3 rfl (⟨_, 8, rfl, Nat.le_refl _, fun _ => ⟨_, _, rfl⟩⟩ : IsSl _ 8) rfl hi179 ?_)
   have hi181 : k9 < ch40.length := (by first | omega | (simp only [lens]; omega))
   obtain ⟨hce180, hxe180⟩ := (RdS.base hrd53 hB57).int hi181
   rw [← getD_at 0 hi181] at hce180 hxe180
   have hcw182 := hS64.cells hce180 ((RdS.base hrd53 hB57).foot (ne_of_lt hi181))
   refine st (ov_load1 (v := .int .i64 ((ch40.getD k9 0))) Try.isAgg3 rfl (hcw182.get (j := 0) rfl) ?_)
   obtain ⟨G183, hA185, hB186, hS187, hk188⟩ := hS64.lend
   obtain ⟨vv189, m190, R191, hb192, hv193, hr194⟩ := SetO.sh hA185
   have hsm195 : (vecE 1 l40).length * 8 ≤ 140737488355328 := hv193.small
   refine st (ov_call (f := 41) (vals := [.pointer (some ⟨b17, 0, none⟩), .int .i64 (0), .agg ((⟨2, 9, 0, [], []⟩ : Msg).cells (.slice none 0 0) (.slice none 0 0)).toArray, .int .i64 ((ch40.getD k9 0))]) (cap := []) (show _ = (.func (.func 41) #[] #[] : Value) from rfl) rfl Try.call41 (D_Answer (self := 0) (m := (⟨2, 9, 0, [], []⟩ : Msg)) (chunk := (ch40.getD k9 0)) hA185 (by decide) (RdS.nil _ _) (RdS.nil _ _) ok178 hxe180 hS187 (kg40.ids) (kg40.srt) (by decide)) ?_)
   rintro v196 w197 ⟨_, rfl, hS198⟩
   have hr199 := hS198.row (i := 0) rfl
   have hr199s : (ansL 1 l40 0 (⟨2, 9, 0, [], []⟩ : Msg) (ch40.getD k9 0)).length * 72 ≤ 140737488355328 := hr199.2
   have hS200 : Sep G54 w28 ((SetO b17 1 l40) :: (RowE (α := Msg) own 57 v196 (ansL 1 l40 0 (⟨2, 9, 0, [], []⟩ : Msg) (ch40.getD k9 0))) :: Rs) w197 := hk188 _ _ hS198
   refine st (ov_assign (v := v196) rfl ?_)
   refine st_nil ?_
   refine WP_seq ?_
   obtain ⟨hka9, hkb9⟩ := ka40 k9 (by omega)
   rw [hka9] at hS200
   have hS201 : Sep G54 w28 ((SetO b17 1 l40) :: (RowE (α := Msg) own 57 v196 [(⟨3, 0, 9, [], l40.take (wa40.getD k9 0).toNat⟩ : Msg)]) :: Rs) w197 := hS200
   have hr202 := hS201.row (i := 1) rfl
   have hr202s : [(⟨3, 0, 9, [], l40.take (wa40.getD k9 0).toNat⟩ : Msg)].length * 72 ≤ 140737488355328 := hr202.2
   have hS203 : Sep G54 w28 ((RowE (α := Msg) own 57 v196 [(⟨3, 0, 9, [], l40.take (wa40.getD k9 0).toNat⟩ : Msg)]) :: (SetO b17 1 l40) :: Rs) w197 := hS201.sel 2 [1, 0] (Nat.le_add_left _ _) rfl rfl
   obtain ⟨G204, hA206, hB207, hS208, hk209⟩ := hS203.lend
   have hrd210 := RowE.rd hA206
   have hrd210s : [(⟨3, 0, 9, [], l40.take (wa40.getD k9 0).toNat⟩ : Msg)].length * 72 ≤ 140737488355328 := hrd210.small
   have hkc9 : ((([(⟨3, 0, 9, [], l40.take (wa40.getD k9 0).toNat⟩ : Msg)].getD 0 default).evs.length : Nat) : Int) = wa40.getD k9 0 := hkb9
   refine WP_draw4 (WF [fun vals wq => Sep G204 w197 ((SetO b17 1 l40) :: Rs) wq, fun vals wq => (vals 27 = (.bool true : Value)) ∧ Sep G204 w197 ((SetO b17 1 l40) :: Rs) wq]) (AF [Vl 0 (v196), Vl 1 (.int .i64 (([(⟨3, 0, 9, [], l40.take (wa40.getD k9 0).toNat⟩ : Msg)].length : Nat) : Int)), Vl 2 (.bool false), Vl 3 (.bool false), Vl 4 (v196), Vl 5 (.pointer (some ⟨sb v196, so v196 + 0 * 5, none⟩)), Vl 6 (.pointer (some ⟨sb v196, so v196 + 0 * 5 + 4, none⟩)), Vl 7 ((cellV w197 (sb v196) (so v196 + 0 * 5 + 4))), Vl 8 (.int .i64 (((([(⟨3, 0, 9, [], l40.take (wa40.getD k9 0).toNat⟩ : Msg)].getD 0 default).evs).length : Nat) : Int)), Vl 9 ((.slice (some ⟨b27, 0, none⟩) 8 8)), Vl 10 (.int .i64 ((k9 : Nat) : Int)), Vl 11 (.pointer (some ⟨sb (.slice (some ⟨b27, 0, none⟩) 8 8), so (.slice (some ⟨b27, 0, none⟩) 8 8) + k9 * 1, none⟩)), Vl 12 (.int .i64 ((wa40.getD k9 0))), Vl 13 (.bool false), Vl 14 (.bool false), Vl 15 (.bool false), Vl 16 (v196), Vl 17 (.pointer (some ⟨sb v196, so v196 + 0 * 5, none⟩)), Vl 18 (.pointer (some ⟨sb v196, so v196 + 0 * 5 + 2, none⟩)), Vl 19 (.int .i64 (([(⟨3, 0, 9, [], l40.take (wa40.getD k9 0).toNat⟩ : Msg)].getD 0 default).dst)), Vl 20 (.bool false), Vl 21 (.bool false), Vl 22 (.bool false), Vl 23 (vo), Vl 24 (.int .i64 ((k9 : Nat) : Int)), Vl 25 (.int .i64 ((k9 * 5 : Nat) : Int)), Vl 26 (.int .i64 ((k9 : Nat) : Int)), fun _ => True, Vl 28 (.bool false), Vl 29 (.bool false)]) [[], [0], [0, 1], [0, 1, 2], [0, 1, 2, 3], [0, 1, 2, 3, 4], [0, 1, 2, 3, 4, 5], [0, 1, 2, 3, 4, 5, 6], [0, 1, 2, 3, 4, 5, 6, 7], [0, 1, 2, 3], [0, 1, 2, 3], [0, 1, 2, 3, 9, 10], [0, 1, 2, 3, 9, 10, 11], [0, 1, 2, 3, 4, 5, 6, 7, 8, 9, 10, 11, 12], [0, 1, 2, 3, 4, 5, 6, 7, 8, 9, 10, 11, 12, 13], [0, 1, 2, 3, 4, 5, 6, 7, 8, 9, 10, 11, 12, 13, 14], [0, 1, 2, 3, 4, 5, 6, 7, 8, 9, 10, 11, 12, 13, 14, 15], [0, 1, 2, 3, 4, 5, 6, 7, 8, 9, 10, 11, 12, 13, 14, 15, 16], [0, 1, 2, 3, 4, 5, 6, 7, 8, 9, 10, 11, 12, 13, 14, 15, 16, 17], [0, 1, 2, 3, 4, 5, 6, 7, 8, 9, 10, 11, 12, 13, 14, 15, 16, 17, 18], [0, 1, 2, 3, 4, 5, 6, 7, 8, 9, 10, 11, 12, 13, 14, 15, 16, 17, 18, 19], [0, 1, 2, 3, 4, 5, 6, 7, 8, 9, 10, 11, 12, 13, 14, 15, 16, 17, 18, 19, 20], [0, 1, 2, 3, 4, 5, 6, 7, 8, 9, 10, 11, 12, 13, 14, 15, 16, 17, 18, 19, 20, 21], [0, 1, 2, 3, 4, 5, 6, 7, 8, 9, 10, 11, 12, 13, 14, 15, 16, 17, 18, 19, 20, 21, 22], [0, 1, 2, 3, 4, 5, 6, 7, 8, 9, 10, 11, 12, 13, 14, 15, 16, 17, 18, 19, 20, 21, 22], [0, 1, 2, 3, 4, 5, 6, 7, 8, 9, 10, 11, 12, 13, 14, 15, 16, 17, 18, 19, 20, 21, 22, 24], [0, 1, 2, 3, 4, 5, 6, 7, 8, 9, 10, 11, 12, 13, 14, 15, 16, 17, 18, 19, 20, 21, 22], [0, 1, 2, 3, 4, 5, 6, 7, 8, 9, 10, 11, 12, 13, 14, 15, 16, 17, 18, 19, 20, 21, 22, 23, 24, 25, 26], [0, 1, 2, 3, 4, 5, 6, 7, 8, 9, 10, 11, 12, 13, 14, 15, 16, 17, 18, 19, 20, 21, 22, 23, 24, 25, 26, 27], [0, 1, 2, 3, 4, 5, 6, 7, 8, 9, 10, 11, 12, 13, 14, 15, 16, 17, 18, 19, 20, 21, 22, 23, 24, 25, 26, 27, 28]] [27] [(0, 0), (0, 0), (0, 0), (0, 0), (0, 0), (0, 0), (0, 0), (0, 0), (0, 0), (0, 0), (0, 0), (0, 0), (0, 0), (0, 0), (0, 0), (0, 0), (0, 0), (0, 0), (0, 0), (0, 0), (0, 0), (0, 0), (0, 0), (0, 0), (0, 0), (0, 0), (0, 0), (0, 0), (1, 1), (1, 1)] (by kernel_rfl) (by kernel_rfl) (by kernel_rfl) rfl (by kernel_rfl) (by kernel_rfl) (fun _ h1 h2 h3 h4 _ => hS208.same h1 h2 h3 h4) ?_ (AF_loc ⟨dA, dA, dA, dA, dA, dA, dA, dA, dA, dA, dA, dA, dA, dA, dA, dA, dA, dA, dA, dA, dA, dA, dA, dA, dA, dA, dA, dT, dA, dA, trivial⟩) ⟨?_, ?_, ?_, ?_, ?_, ?_, ?_, ?_, ?_, ?_, ?_, ?_, ?_, ?_, ?_, ?_, ?_, ?_, ?_, ?_, ?_, ?_, ?_, ?_, ?_, ?_, ?_, ?_, ?_, ?_, trivial⟩ ?_
   ·intro k vals vals' w hv h
    have e : ∀ j ∈ ([27] : List Nat), vals' j = vals j := hv
    match k, h with
    | 0, h => exact h
    | 1, h => exact (by simpa only [WF, List.getElem?_cons_zero, List.getElem?_cons_succ, e 27 (by decide)] using h)
    | _ + 2, _ => trivial
   ·intro k483 vals w484 h487 h488 hW486 hA485
    refine obl rfl ?_
    exact ov_move (v := v196) rfl (fun vals' hv _ => ⟨rfl, hv⟩)
   ·intro k489 vals w490 h493 h494 hW492 hA491
    obtain rfl : k489 = 0 := Nat.le_antisymm h494 h493
    have hS495 : Sep G204 w197 ((SetO b17 1 l40) :: Rs) w490 := hW492
    have e496 := hA491 0 (by decide)
    refine obl rfl ?_
    exact ov_len (n := [(⟨3, 0, 9, [], l40.take (wa40.getD k9 0).toNat⟩ : Msg)].length) Try.underlying58 e496 hrd210.sl (fun vals' hv _ => ⟨rfl, hv⟩)
   ·intro k497 vals w498 h501 h502 hW500 hA499
    obtain rfl : k497 = 0 := Nat.le_antisymm h502 h501
    have hS503 : Sep G204 w197 ((SetO b17 1 l40) :: Rs) w498 := hW500
    have e504 := hA499 1 (by decide)
    refine obl rfl ?_
    have hl505 : (!decide ((([(⟨3, 0, 9, [], l40.take (wa40.getD k9 0).toNat⟩ : Msg)].length : Nat) : Int) = 1)) = false := by rfl
    exact ov_neq (k := .i64) (a := (([(⟨3, 0, 9, [], l40.take (wa40.getD k9 0).toNat⟩ : Msg)].length : Nat) : Int)) (b := 1) e504 rfl (fun vals' hv _ => ⟨rfl, hv.trans (congrArg Value.bool hl505)⟩)
   ·intro k506 vals w507 h510 h511 hW509 hA508
    have e512 := hA508 2 (by decide)
    refine obl rfl ?_
    exact ov_move (v := .bool false) e512 (fun vals' hv _ => ⟨rfl, hv⟩)
   ·intro k513 vals w514 h517 h518 hW516 hA515
    have e519 := hA515 3 (by decide)
    refine oblc rfl rfl e519 (fun _ => ?_) (fun hb => absurd rfl hb)
    exact ov_move (v := v196) rfl (fun vals' hv _ => ⟨rfl, hv⟩)
   ·intro k520 vals w521 h524 h525 hW523 hA522
    obtain rfl : k520 = 0 := Nat.le_antisymm h525 h524
    have hS526 : Sep G204 w197 ((SetO b17 1 l40) :: Rs) w521 := hW523
    have e527 := hA522 3 (by decide)
    have e528 := hA522 4 (by decide)
    refine oblc rfl rfl e527 (fun _ => ?_) (fun hb => absurd rfl hb)
    have hi529 : 0 < [(⟨3, 0, 9, [], l40.take (wa40.getD k9 0).toNat⟩ : Msg)].length := (by first | omega | (simp only [lens]; omega))
    exact ov_indexAddrN (k := 5) (i := 0) Try.underlying58 Try.sizeOf57 e528 hrd210.sl rfl hi529 (fun vals' hv _ => ⟨rfl, hv⟩)
   ·intro k530 vals w531 h534 h535 hW533 hA532
    have e536 := hA532 3 (by decide)
    have e537 := hA532 5 (by decide)
    refine oblc rfl rfl e536 (fun _ => ?_) (fun hb => absurd rfl hb)
    exact fd57_4 e537 (fun vals' hv _ => ⟨rfl, hv⟩)
   ·intro k538 vals w539 h542 h543 hW541 hA540
    obtain rfl : k538 = 0 := Nat.le_antisymm h543 h542
    have hS544 : Sep G204 w197 ((SetO b17 1 l40) :: Rs) w539 := hW541
    have e545 := hA540 3 (by decide)
    have e546 := hA540 6 (by decide)
    refine oblc rfl rfl e545 (fun _ => ?_) (fun hb => absurd rfl hb)
    have hi548 : 0 < [(⟨3, 0, 9, [], l40.take (wa40.getD k9 0).toNat⟩ : Msg)].length := (by first | omega | (simp only [lens]; omega))
    obtain ⟨hce547, hde547_0, hde547_1, hoke547⟩ := hrd210.msg hi548
    rw [← getD_at default hi548] at hce547 hde547_0 hde547_1 hoke547
    have hsm549 : (([(⟨3, 0, 9, [], l40.take (wa40.getD k9 0).toNat⟩ : Msg)].getD 0 default).vec).length * 8 ≤ 140737488355328 := hde547_0.small
    have hsm550 : (([(⟨3, 0, 9, [], l40.take (wa40.getD k9 0).toNat⟩ : Msg)].getD 0 default).evs).length * 96 ≤ 140737488355328 := hde547_1.small
    have hcw551 := hS544.cells hce547 (hrd210.foot (ne_of_lt hi548))
    exact ov_load1 (v := (cellV w197 (sb v196) (so v196 + 0 * 5 + 4))) Try.isAgg22 e546 (hcw551.get (j := 4) rfl) (fun vals' hv _ => ⟨rfl, hv⟩)
   ·intro k552 vals w553 h556 h557 hW555 hA554
    obtain rfl : k552 = 0 := Nat.le_antisymm h557 h556
    have hS558 : Sep G204 w197 ((SetO b17 1 l40) :: Rs) w553 := hW555
    have e559 := hA554 3 (by decide)
    have e560 := hA554 7 (by decide)
    refine oblc rfl rfl e559 (fun _ => ?_) (fun hb => absurd rfl hb)
    have hi562 : 0 < [(⟨3, 0, 9, [], l40.take (wa40.getD k9 0).toNat⟩ : Msg)].length := (by first | omega | (simp only [lens]; omega))
    obtain ⟨hce561, hde561_0, hde561_1, hoke561⟩ := hrd210.msg hi562
    rw [← getD_at default hi562] at hce561 hde561_0 hde561_1 hoke561
    have hsm563 : (([(⟨3, 0, 9, [], l40.take (wa40.getD k9 0).toNat⟩ : Msg)].getD 0 default).vec).length * 8 ≤ 140737488355328 := hde561_0.small
    have hsm564 : (([(⟨3, 0, 9, [], l40.take (wa40.getD k9 0).toNat⟩ : Msg)].getD 0 default).evs).length * 96 ≤ 140737488355328 := hde561_1.small
    have hcw565 := hS558.cells hce561 (hrd210.foot (ne_of_lt hi562))
    exact ov_len (n := (([(⟨3, 0, 9, [], l40.take (wa40.getD k9 0).toNat⟩ : Msg)].getD 0 default).evs).length) Try.underlying22 e560 hde561_1.sl (fun vals' hv _ => ⟨rfl, hv⟩)
   ·intro k566 vals w567 h570 h571 hW569 hA568
    have e572 := hA568 3 (by decide)
    refine oblc rfl rfl e572 (fun _ => ?_) (fun hb => absurd rfl hb)
    exact ov_move (v := (.slice (some ⟨b27, 0, none⟩) 8 8)) rfl (fun vals' hv _ => ⟨rfl, hv⟩)
   ·intro k573 vals w574 h577 h578 hW576 hA575
    have e579 := hA575 3 (by decide)
    refine oblc rfl rfl e579 (fun _ => ?_) (fun hb => absurd rfl hb)
    exact ov_move (v := .int .i64 ((k9 : Nat) : Int)) rfl (fun vals' hv _ => ⟨rfl, hv⟩)
   ·intro k580 vals w581 h584 h585 hW583 hA582
    obtain rfl : k580 = 0 := Nat.le_antisymm h585 h584
    have hS586 : Sep G204 w197 ((SetO b17 1 l40) :: Rs) w581 := hW583
    have e587 := hA582 3 (by decide)
    have e588 := hA582 9 (by decide)
    have e589 := hA582 10 (by decide)
    refine oblc rfl rfl e587 (fun _ => ?_) (fun hb => absurd rfl hb)
    have hi590 : k9 < wa40.length := (by first | omega | (simp only [lens]; omega))
    exact ov_indexAddrN (k := 1) (i := k9) Try.underlying34 Try.sizeOf3 e588 (⟨_, 8, rfl, Nat.le_refl _, fun _ => ⟨_, _, rfl⟩⟩ : IsSl _ 8) e589 hi590 (fun vals' hv _ => ⟨rfl, hv⟩)
   ·intro k591 vals w592 h595 h596 hW594 hA593
    obtain rfl : k591 = 0 := Nat.le_antisymm h596 h595
    have hS597 : Sep G204 w197 ((SetO b17 1 l40) :: Rs) w592 := hW594
    have e598 := hA593 3 (by decide)
    have e599 := hA593 11 (by decide)
    refine oblc rfl rfl e598 (fun _ => ?_) (fun hb => absurd rfl hb)
    have hi601 : k9 < wa40.length := (by first | omega | (simp only [lens]; omega))
    obtain ⟨hce600, hxe600⟩ := (RdS.base hrd60 hB207).int hi601
    rw [← getD_at 0 hi601] at hce600 hxe600
    have hcw602 := hS597.cells hce600 ((RdS.base hrd60 hB207).foot (ne_of_lt hi601))
    exact ov_load1 (v := .int .i64 ((wa40.getD k9 0))) Try.isAgg3 e599 (hcw602.get (j := 0) rfl) (fun vals' hv _ => ⟨rfl, hv⟩)
   ·intro k603 vals w604 h607 h608 hW606 hA605
    obtain rfl : k603 = 0 := Nat.le_antisymm h608 h607
    have hS609 : Sep G204 w197 ((SetO b17 1 l40) :: Rs) w604 := hW606
    have e610 := hA605 3 (by decide)
    have e611 := hA605 8 (by decide)
    have e612 := hA605 12 (by decide)
    refine oblc rfl rfl e610 (fun _ => ?_) (fun hb => absurd rfl hb)
    have hl613 : (!decide ((((([(⟨3, 0, 9, [], l40.take (wa40.getD k9 0).toNat⟩ : Msg)].getD 0 default).evs).length : Nat) : Int) = (wa40.getD k9 0))) = false := by rw [hkc9]; simp
    exact ov_neq (k := .i64) (a := (((([(⟨3, 0, 9, [], l40.take (wa40.getD k9 0).toNat⟩ : Msg)].getD 0 default).evs).length : Nat) : Int)) (b := (wa40.getD k9 0)) e611 e612 (fun vals' hv _ => ⟨rfl, hv.trans (congrArg Value.bool hl613)⟩)
   ·intro k614 vals w615 h618 h619 hW617 hA616
    have e620 := hA616 3 (by decide)
    have e621 := hA616 13 (by decide)
    refine obl rfl ?_
    exact ov_pick_f (v := .bool false) e620 e621 (fun vals' hv _ => ⟨rfl, hv⟩)
   ·intro k622 vals w623 h626 h627 hW625 hA624
    have e628 := hA624 14 (by decide)
    refine obl rfl ?_
    exact ov_move (v := .bool false) e628 (fun vals' hv _ => ⟨rfl, hv⟩)
   ·intro k629 vals w630 h633 h634 hW632 hA631
    have e635 := hA631 15 (by decide)
    refine oblc rfl rfl e635 (fun _ => ?_) (fun hb => absurd rfl hb)
    exact ov_move (v := v196) rfl (fun vals' hv _ => ⟨rfl, hv⟩)
   ·intro k636 vals w637 h640 h641 hW639 hA638
    obtain rfl : k636 = 0 := Nat.le_antisymm h641 h640
    have hS642 : Sep G204 w197 ((SetO b17 1 l40) :: Rs) w637 := hW639
    have e643 := hA638 15 (by decide)
    have e644 := hA638 16 (by decide)
    refine oblc rfl rfl e643 (fun _ => ?_) (fun hb => absurd rfl hb)
    have hi645 : 0 < [(⟨3, 0, 9, [], l40.take (wa40.getD k9 0).toNat⟩ : Msg)].length := (by first | omega | (simp only [lens]; omega))
    exact ov_indexAddrN (k := 5) (i := 0) Try.underlying58 Try.sizeOf57 e644 hrd210.sl rfl hi645 (fun vals' hv _ => ⟨rfl, hv⟩)
   ·intro k646 vals w647 h650 h651 hW649 hA648
    have e652 := hA648 15 (by decide)
    have e653 := hA648 17 (by decide)
    refine oblc rfl rfl e652 (fun _ => ?_) (fun hb => absurd rfl hb)
    exact fd57_2 e653 (fun vals' hv _ => ⟨rfl, hv⟩)
   ·intro k654 vals w655 h658 h659 hW657 hA656
    obtain rfl : k654 = 0 := Nat.le_antisymm h659 h658
    have hS660 : Sep G204 w197 ((SetO b17 1 l40) :: Rs) w655 := hW657
    have e661 := hA656 15 (by decide)
    have e662 := hA656 18 (by decide)
    refine oblc rfl rfl e661 (fun _ => ?_) (fun hb => absurd rfl hb)
    have hi664 : 0 < [(⟨3, 0, 9, [], l40.take (wa40.getD k9 0).toNat⟩ : Msg)].length := (by first | omega | (simp only [lens]; omega))
    obtain ⟨hce663, hde663_0, hde663_1, hoke663⟩ := hrd210.msg hi664
    rw [← getD_at default hi664] at hce663 hde663_0 hde663_1 hoke663
    have hsm665 : (([(⟨3, 0, 9, [], l40.take (wa40.getD k9 0).toNat⟩ : Msg)].getD 0 default).vec).length * 8 ≤ 140737488355328 := hde663_0.small
    have hsm666 : (([(⟨3, 0, 9, [], l40.take (wa40.getD k9 0).toNat⟩ : Msg)].getD 0 default).evs).length * 96 ≤ 140737488355328 := hde663_1.small
    have hcw667 := hS660.cells hce663 (hrd210.foot (ne_of_lt hi664))
    exact ov_load1 (v := .int .i64 (([(⟨3, 0, 9, [], l40.take (wa40.getD k9 0).toNat⟩ : Msg)].getD 0 default).dst)) Try.isAgg3 e662 (hcw667.get (j := 2) rfl) (fun vals' hv _ => ⟨rfl, hv⟩)
   ·intro k668 vals w669 h672 h673 hW671 hA670
    obtain rfl : k668 = 0 := Nat.le_antisymm h673 h672
    have hS674 : Sep G204 w197 ((SetO b17 1 l40) :: Rs) w669 := hW671
    have e675 := hA670 15 (by decide)
    have e676 := hA670 19 (by decide)
    refine oblc rfl rfl e675 (fun _ => ?_) (fun hb => absurd rfl hb)
    have hl677 : (!decide ((([(⟨3, 0, 9, [], l40.take (wa40.getD k9 0).toNat⟩ : Msg)].getD 0 default).dst) = 9)) = false := by rfl
    exact ov_neq (k := .i64) (a := ([(⟨3, 0, 9, [], l40.take (wa40.getD k9 0).toNat⟩ : Msg)].getD 0 default).dst) (b := 9) e676 rfl (fun vals' hv _ => ⟨rfl, hv.trans (congrArg Value.bool hl677)⟩)
   ·intro k678 vals w679 h682 h683 hW681 hA680
    have e684 := hA680 15 (by decide)
    have e685 := hA680 20 (by decide)
    refine obl rfl ?_
    exact ov_pick_f (v := .bool false) e684 e685 (fun vals' hv _ => ⟨rfl, hv⟩)
   ·intro k686 vals w687 h690 h691 hW689 hA688
    have e692 := hA688 21 (by decide)
    refine obl rfl ?_
    exact ov_move (v := .bool false) e692 (fun vals' hv _ => ⟨rfl, hv⟩)
   ·intro k693 vals w694 h697 h698 hW696 hA695
    have e699 := hA695 22 (by decide)
    refine oblc rfl rfl e699 (fun _ => ?_) (fun hb => absurd rfl hb)
    exact ov_move (v := vo) rfl (fun vals' hv _ => ⟨rfl, hv⟩)
   ·intro k700 vals w701 h704 h705 hW703 hA702
    have e706 := hA702 22 (by decide)
    refine oblc rfl rfl e706 (fun _ => ?_) (fun hb => absurd rfl hb)
    exact ov_move (v := .int .i64 ((k9 : Nat) : Int)) rfl (fun vals' hv _ => ⟨rfl, hv⟩)
   ·intro k707 vals w708 h711 h712 hW710 hA709
    obtain rfl : k707 = 0 := Nat.le_antisymm h712 h711
    have hS713 : Sep G204 w197 ((SetO b17 1 l40) :: Rs) w708 := hW710
    have e714 := hA709 22 (by decide)
    have e715 := hA709 24 (by decide)
    refine oblc rfl rfl e714 (fun _ => ?_) (fun hb => absurd rfl hb)
    have hr716 : InR ((k9 * 5 : Nat) : Int) := by first | omega | (simp only [lens]; omega)
    exact ov_mul (r := ((k9 * 5 : Nat) : Int)) (k := .i64) (a := ((k9 : Nat) : Int)) (b := 5) e715 rfl (by rw [show (((k9 : Nat) : Int) * 5 : Int) = ((k9 * 5 : Nat) : Int) by first | omega | (simp only [lens]; omega)]; exact wrap_in hr716) (fun vals' hv _ => ⟨rfl, hv⟩)
   ·intro k717 vals w718 h721 h722 hW720 hA719
    have e723 := hA719 22 (by decide)
    refine oblc rfl rfl e723 (fun _ => ?_) (fun hb => absurd rfl hb)
    exact ov_move (v := .int .i64 ((k9 : Nat) : Int)) rfl (fun vals' hv _ => ⟨rfl, hv⟩)
   ·intro k452 vals w453 h456 h457 hW455 hA454
    obtain rfl : k452 = 0 := Nat.le_antisymm h457 h456
    have hS458 : Sep G204 w197 ((SetO b17 1 l40) :: Rs) w453 := hW455
    have e459 := hA454 22 (by decide)
    have e460 := hA454 23 (by decide)
    have e461 := hA454 25 (by decide)
    have e462 := hA454 26 (by decide)
    refine oblc rfl rfl e459 (fun _ => ?_) (fun hb => absurd rfl hb)
    refine (ov_call (f := 13) (vals := [.int .i64 (0), vo, .int .i64 ((k9 * 5 : Nat) : Int), .int .i64 ((k9 : Nat) : Int)]) (cap := []) (show _ = (.func (.func 13) #[] #[] : Value) from rfl) (mapL ⟨rfl, e460, e461, e462, trivial⟩) Try.call13 (D_TalkMeets (n := 0) (l := l40) (vl := vo) (part := ((k9 * 5 : Nat) : Int)) (chunk := ((k9 : Nat) : Int)) (by decide) (RdS.base (RdS.base (RdS.base hrd46 hB50) hB57) hB207) (by omega) (by omega) hS458) ?_)
    rintro _ w463 ⟨rfl, hS464⟩
    intro vals' hv hv'
    refine ⟨?_, trivial⟩
    show (vals' 27 = (.bool true : Value)) ∧ Sep G204 w197 ((SetO b17 1 l40) :: Rs) w463
    exact ⟨hv, hS464⟩
   ·intro k724 vals w725 h728 h729 hW727 hA726
    obtain rfl : k724 = 1 := Nat.le_antisymm h729 h728
    obtain ⟨he465, hS730⟩ := hW727
    have e731 := hA726 22 (by decide)
    refine oblc rfl rfl e731 (fun _ => ?_) (fun hb => absurd rfl hb)
    have hl732 : (false) = false := by rfl
    exact ov_not (a := true) he465 (fun vals' hv _ => ⟨rfl, hv.trans (congrArg Value.bool hl732)⟩)
   ·intro k733 vals w734 h737 h738 hW736 hA735
    have e739 := hA735 22 (by decide)
    have e740 := hA735 28 (by decide)
    refine obl rfl ?_
    exact ov_pick_f (v := .bool false) e739 e740 (fun vals' hv _ => ⟨rfl, hv⟩)
   intro vals w741 hW742 hA743
   obtain ⟨he465, hS744⟩ := hW742
   have e745 := hA743 29 (by decide)
   refine st_env (kv := [(1, vo), (3, .pointer (some ⟨b17, 0, none⟩)), (4, (.slice (some ⟨b23, 0, none⟩) 8 8)), (5, (.slice (some ⟨b27, 0, none⟩) 8 8)), (6, .int .i64 ((k9 : Nat) : Int)), (31, .int .i64 ((k9 : Nat) : Int)), (32, (.slice (some ⟨b23, 0, none⟩) 8 8)), (33, .int .i64 ((8 : Nat) : Int)), (34, .bool true), (37, .pointer (some ⟨b17, 0, none⟩)), (38, .agg ((⟨2, 9, 0, [], []⟩ : Msg).cells (.slice none 0 0) (.slice none 0 0)).toArray), (39, (.slice (some ⟨b23, 0, none⟩) 8 8)), (40, .int .i64 ((k9 : Nat) : Int)), (41, .pointer (some ⟨sb (.slice (some ⟨b23, 0, none⟩) 8 8), so (.slice (some ⟨b23, 0, none⟩) 8 8) + k9 * 1, none⟩)), (42, .int .i64 ((ch40.getD k9 0))), (43, v196), (7, v196), (73, .bool false)]) ⟨rfl, rfl, rfl, rfl, rfl, rfl, rfl, rfl, rfl, rfl, rfl, rfl, rfl, rfl, rfl, rfl, rfl, (by exact e745), trivial⟩ (fun ρw741 => ?_)
   refine st_nil ?_
   refine WP_cond_f rfl ?_
   refine WP_skip ?_
   refine WP_region0 (by kernel_rfl) (fun _ => ?_)
   refine st (ov_move (v := .int .i64 ((k9 : Nat) : Int)) rfl ?_)
   have hr746 : InR ((k9 + 1 : Nat) : Int) := by first | omega | (simp only [lens]; omega)
   refine st (ov_add (r := ((k9 + 1 : Nat) : Int)) (k := .i64) (a := ((k9 : Nat) : Int)) (b := 1) rfl rfl (by rw [show (((k9 : Nat) : Int) + 1 : Int) = ((k9 + 1 : Nat) : Int) by first | omega | (simp only [lens]; omega)]; exact wrap_in hr746) ?_)
   refine st (ov_assign (v := .int .i64 ((k9 + 1 : Nat) : Int)) rfl ?_)
   refine st_nil ?_
   have hS747 : Sep G54 w28 ((RowE (α := Msg) own 57 v196 [(⟨3, 0, 9, [], l40.take (wa40.getD k9 0).toNat⟩ : Msg)]) :: (SetO b17 1 l40) :: Rs) w741 := hk209 _ _ hS744
   have hS748 : Sep G54 w28 ((SetO b17 1 l40) :: Rs) w741 := hS747.sel 2 [1] (Nat.le_add_left _ _) rfl rfl
   exact ⟨_, by omega, k9 + 1, _, rfl, setAll_self ⟨rfl, rfl, rfl, rfl, rfl, trivial⟩, by omega, hS748⟩
 ·skip
  have hc7r := hc7
  have hc7 := of_decide_eq_true hc7
  refine WP_cond_t rfl ?_
  refine WP_skip ?_
  refine WP_seq ?_
  refine WP_block ?_
  refine WP_region0 (by kernel_rfl) (fun _ => ?_)
  refine st (ov_move (v := vo) rfl ?_)
  refine st (ov_move (v := .int .i64 ((k : Nat) : Int)) rfl ?_)
  have hr749 : InR ((k + 1 : Nat) : Int) := by first | omega | (simp only [lens]; omega)
  refine st (ov_add (r := ((k + 1 : Nat) : Int)) (k := .i64) (a := ((k : Nat) : Int)) (b := 1) rfl rfl (by rw [show (((k : Nat) : Int) + 1 : Int) = ((k + 1 : Nat) : Int) by first | omega | (simp only [lens]; omega)]; exact wrap_in hr749) ?_)
  refine st (ov_build (parts' := [(1, .int .i64 ((k + 1 : Nat) : Int))]) (v := .agg #[.int .i64 (0), .int .i64 ((k + 1 : Nat) : Int)]) rfl (by simp [Instr.build, Instr.fill, go_sem, Ev.cells, Msg.cells]) ?_)
  refine st (ov_move (v := .int .i64 ((k : Nat) : Int)) rfl ?_)
  have hr750 : InR ((k + 1 : Nat) : Int) := by first | omega | (simp only [lens]; omega)
  refine st (ov_add (r := ((k + 1 : Nat) : Int)) (k := .i64) (a := ((k : Nat) : Int)) (b := 1) rfl rfl (by rw [show (((k : Nat) : Int) + 1 : Int) = ((k + 1 : Nat) : Int) by first | omega | (simp only [lens]; omega)]; exact wrap_in hr750) ?_)
  refine st (ov_move (v := .int .i64 ((k : Nat) : Int)) rfl ?_)
  refine st (ov_buildSlice (k := 1) (parts' := [(0, .int .i64 ((k : Nat) : Int))]) (c := #[.int .i64 ((k : Nat) : Int)]) Try.underlying34 Try.sizeOf3 Try.zeroValue3 (by decide) rfl (by kernel_rfl) ?_)
  intro w753 b752 hn751
  have hS754 : Sep G W ((Blk b752 #[.int .i64 ((k : Nat) : Int)] 3) :: (RowE (α := Ev) own 36 vo ((List.range k).map ev40)) :: Rs) w753 := hS5.new hn751
  have hS755 : Sep G W ((RowE (α := Int) own 3 (.slice (some ⟨b752, 0, none⟩) 1 1) [((k : Nat) : Int)]) :: (RowE (α := Ev) own 36 vo ((List.range k).map ev40)) :: Rs) w753 := Sep.blkRow (src := own) (l := [((k : Nat) : Int)]) (css := [[.int .i64 ((k : Nat) : Int)]]) hS754 rfl ⟨fun _ _ => ⟨rfl, (by omega)⟩, trivial⟩ (by first | decide | (simp only [List.length_cons, List.length_nil]; decide)) (show 1 ≤ maxLen by decide)
  have hr756 := hS755.row (i := 0) rfl
  have hr756s : [((k : Nat) : Int)].length * 8 ≤ 140737488355328 := hr756.2
  have ok757 : Ev.Ok (⟨0, ((k + 1 : Nat) : Int), ((k + 1 : Nat) : Int), [((k : Nat) : Int)], 0, 0, 0, 1, 1, 0⟩ : Ev) := ⟨(show InR (0) from (by decide)), (show InR (((k + 1 : Nat) : Int)) from hr749), (show InR (((k + 1 : Nat) : Int)) from hr750), (show InR (0) from (by decide)), (show InR (0) from (by decide)), (show InR (0) from (by decide)), (show InR (1) from (by decide)), (show InR (1) from (by decide)), (show InR (0) from (by decide))⟩
  refine st (ov_build (parts' := [(0, .agg #[.int .i64 (0), .int .i64 ((k + 1 : Nat) : Int)]), (1, .int .i64 ((k + 1 : Nat) : Int)), (2, (.slice (some ⟨b752, 0, none⟩) 1 1)), (6, .int .i64 (1)), (7, .int .i64 (1))]) (v := .agg ((⟨0, ((k + 1 : Nat) : Int), ((k + 1 : Nat) : Int), [((k : Nat) : Int)], 0, 0, 0, 1, 1, 0⟩ : Ev).cells (.slice (some ⟨b752, 0, none⟩) 1 1)).toArray) rfl (by simp [Instr.build, Instr.fill, go_sem, Ev.cells, Msg.cells]) ?_)
  refine st (ov_buildSlice (k := 10) (parts' := [(0, .agg ((⟨0, ((k + 1 : Nat) : Int), ((k + 1 : Nat) : Int), [((k : Nat) : Int)], 0, 0, 0, 1, 1, 0⟩ : Ev).cells (.slice (some ⟨b752, 0, none⟩) 1 1)).toArray)]) (c := ((⟨0, ((k + 1 : Nat) : Int), ((k + 1 : Nat) : Int), [((k : Nat) : Int)], 0, 0, 0, 1, 1, 0⟩ : Ev).cells (.slice (some ⟨b752, 0, none⟩) 1 1)).toArray) Try.underlying22 Try.sizeOf36 Try.zeroValue36 (by decide) rfl (by kernel_rfl) ?_)
  intro w760 b759 hn758
  have hS761 : Sep G W ((Blk b759 ((⟨0, ((k + 1 : Nat) : Int), ((k + 1 : Nat) : Int), [((k : Nat) : Int)], 0, 0, 0, 1, 1, 0⟩ : Ev).cells (.slice (some ⟨b752, 0, none⟩) 1 1)).toArray 36) :: (RowE (α := Int) own 3 (.slice (some ⟨b752, 0, none⟩) 1 1) [((k : Nat) : Int)]) :: (RowE (α := Ev) own 36 vo ((List.range k).map ev40)) :: Rs) w760 := hS755.new hn758
  have hbk765 := hS761.blk (i := 0) rfl
  have hS766 : Sep G W ((RowE (α := Ev) own 36 vo ((List.range k).map ev40)) :: (RowE (α := Int) own 3 (.slice (some ⟨b752, 0, none⟩) 1 1) [((k : Nat) : Int)]) :: Rs) w760 := hS761.sel 3 [2, 1] (Nat.le_add_left _ _) rfl rfl
  refine st (ov_append1S (src := own) (bytes := 96) (x1 := (⟨0, ((k + 1 : Nat) : Int), ((k + 1 : Nat) : Int), [((k : Nat) : Int)], 0, 0, 0, 1, 1, 0⟩ : Ev)) hS766 el22 rfl rfl hbk765 (fun _ _ hN => ⟨_, rfl, RowE.soft hN, ok757⟩) (by first | omega | (simp only [List.length_append, List.length_cons, List.length_nil, List.length_take, List.length_drop]; omega)) rfl ?_)
  intro v763 w762 hS764
  have hr767 := hS764.row (i := 0) rfl
  have hr767s : (((List.range k).map ev40) ++ [(⟨0, ((k + 1 : Nat) : Int), ((k + 1 : Nat) : Int), [((k : Nat) : Int)], 0, 0, 0, 1, 1, 0⟩ : Ev)]).length * 96 ≤ 140737488355328 := hr767.2
  refine st (ov_assign (v := v763) rfl ?_)
  refine st_nil ?_
  refine WP_region0 (by kernel_rfl) (fun _ => ?_)
  refine st (ov_move (v := .int .i64 ((k : Nat) : Int)) rfl ?_)
  have hr768 : InR ((k + 1 : Nat) : Int) := by first | omega | (simp only [lens]; omega)
  refine st (ov_add (r := ((k + 1 : Nat) : Int)) (k := .i64) (a := ((k : Nat) : Int)) (b := 1) rfl rfl (by rw [show (((k : Nat) : Int) + 1 : Int) = ((k + 1 : Nat) : Int) by first | omega | (simp only [lens]; omega)]; exact wrap_in hr768) ?_)
  refine st (ov_assign (v := .int .i64 ((k + 1 : Nat) : Int)) rfl ?_)
  refine st_nil ?_
  have hL769 : ((List.range (k + 1)).map ev40) = ((List.range k).map ev40) ++ [(⟨0, ((k + 1 : Nat) : Int), ((k + 1 : Nat) : Int), [((k : Nat) : Int)], 0, 0, 0, 1, 1, 0⟩ : Ev)] := (map40 rfl)
  rw [← hL769] at hS764
  exact ⟨_, by omega, k + 1, v763, _, rfl, setAll_self ⟨rfl, rfl, trivial⟩, by omega, hS764⟩

end Go.Proofs.Ytgjgmojjeehieaa
end

section
/- Steps of the proofs of this seat: part E14. -/
set_option linter.unusedSimpArgs false
set_option linter.unusedVariables false
set_option maxRecDepth 8000
set_option maxHeartbeats 4000000
namespace Go.Proofs.Ytgjgmojjeehieaa
open Go.Proofs Go.RowKit

theorem C_TalkKnown {W : World}  : Ret Try.prog 14 [] W (fun r w' => r = .bool true ∧ Ext W w') :=
  Ret.mono (D_TalkKnown (Sep.start W)) (fun v w' ⟨h1, h2⟩ => ⟨h1, h2.fin⟩)
end Go.Proofs.Ytgjgmojjeehieaa
end
