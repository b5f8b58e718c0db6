/- Texts of this claim, part 15. -/
import Derived.Test.YtmiihhbeclhaoaaX14
set_option linter.unusedSimpArgs false
set_option linter.unusedVariables false
set_option linter.unusedSectionVars false
section
/- Steps of the proofs of this seat: part D13. -/
set_option linter.unusedSimpArgs false
set_option linter.unusedVariables false
set_option maxRecDepth 8000
set_option maxHeartbeats 4000000
namespace Go.Proofs.Ytmiihhbeclhaoaa
open Go.Proofs Go.RowKit

def FirstL (n : Nat) (T B : List Ev) (k : Nat) (c : Int) : Prop := (c = -1 ∧ ∀ i, i < k → canE n T (B.getD i default) = false) ∨ ∃ q : Nat, c = (q : Int) ∧ q < k ∧ canE n T (B.getD q default) = true ∧ ∀ i, i < k → canE n T (B.getD i default) = true → ltE (B.getD i default) (B.getD q default) = false
section
variable {n k : Nat} {T B : List Ev} {c : Int}
theorem FirstL.start : FirstL n T B 0 (-1) := .inl ⟨rfl, fun i h => absurd h (Nat.not_lt_zero i)⟩
theorem FirstL.bd (h : FirstL n T B k c) : -1 ≤ c ∧ c < (k : Int) := by
  rcases h with ⟨h, _⟩ | ⟨q, h, h2, _⟩ <;> omega
theorem FirstL.skip (h : FirstL n T B k c) (hc : (canE n T (B.getD k default) && (decide (c < 0) || ltE (B.getD k default) (B.getD c.toNat default))) = false) : FirstL n T B (k + 1) c := by
  rcases h with ⟨h1, h2⟩ | ⟨q, rfl, hq, h3, h4⟩
  · refine .inl ⟨h1, fun i hi => ?_⟩
    rcases Nat.lt_or_ge i k with h5 | h5
    · exact h2 i h5
    · obtain rfl : i = k := by omega
      rw [decide_eq_true (show c < 0 by omega), Bool.true_or, Bool.and_true] at hc; exact hc
  · refine .inr ⟨q, rfl, by omega, h3, fun i hi h6 => ?_⟩
    rcases Nat.lt_or_ge i k with h5 | h5
    · exact h4 i h5 h6
    · obtain rfl : i = k := by omega
      rw [h6, Bool.true_and, decide_eq_false (show ¬ ((q : Nat) : Int) < 0 by omega), Bool.false_or, Int.toNat_natCast] at hc; exact hc
theorem ltE_trans {a b d : Ev} (h1 : ltE a b = true) (h2 : ltE b d = true) : ltE a d = true := lt_cmp.2 (cmp_trans (lt_cmp.1 h1) (lt_cmp.1 h2))
theorem ltE_irr {a : Ev} : ltE a a = false := by
  cases h : ltE a a with
  | false => rfl
  | true => exact absurd (lt_cmp.1 h) (cmp_asym (lt_cmp.1 h))
theorem FirstL.take (h : FirstL n T B k c) (hc : (canE n T (B.getD k default) && (decide (c < 0) || ltE (B.getD k default) (B.getD c.toNat default))) = true) : FirstL n T B (k + 1) ((k : Nat) : Int) := by
  rw [Bool.and_eq_true, Bool.or_eq_true, decide_eq_true_eq] at hc
  refine .inr ⟨k, rfl, Nat.lt_succ_self k, hc.1, fun i hi h6 => ?_⟩
  rcases Nat.lt_or_ge i k with h5 | h5
  · rcases h with ⟨h1, h2⟩ | ⟨q, rfl, hq, h3, h4⟩
    · rw [h2 i h5] at h6; cases h6
    · have h7 := h4 i h5 h6
      rcases hc.2 with h8 | h8
      · omega
      · rw [Int.toNat_natCast] at h8
        cases h9 : ltE (B.getD i default) (B.getD k default) with
        | false => rfl
        | true => rw [ltE_trans h9 h8] at h7; cases h7
  · obtain rfl : i = k := by omega
    exact ltE_irr
end
theorem D_first {G : Nat → Prop} {W w : World} {Rs : List HP} {b : Nat} {most : Int} {B : List Ev} (hb : (RBufO b most B).p W G) {s : Nat} {n : Nat} {L : List Ev} (hS0 : Sep G W ((RefS s n L) :: Rs) w) (hmost : InR most) (hG : Good n L) (hn : n ≤ 1000) (hL : L.length ≤ 1000000) : Ret Try.prog 60 [.pointer (some ⟨b, 0, none⟩), .pointer (some ⟨s, 0, none⟩)] w (fun r w' => ∃ (c : Int), r = (.int .i64 (c) : Value) ∧ (InR c) ∧ (FirstL n L B B.length c) ∧ Sep G W ((RefS s n L) :: Rs) w') := by
 refine Calls_of_WP (args := [.pointer (some ⟨b, 0, none⟩), .pointer (some ⟨s, 0, none⟩)]) Try.func60 rfl rfl ?_
 obtain ⟨vl1, hS2⟩ := RefS.open hS0
 have hS2t : Sep G W ((Blk s #[.int .i64 ((n : Nat) : Int), vl1] 78) :: (RowE (α := Ev) own 36 vl1 L) :: Rs) w := hS2
 have hr3 := hS2t.row (i := 1) rfl
 have hr3s : L.length * 96 ≤ 140737488355328 := hr3.2
 obtain ⟨vl4, hb5, hl6⟩ := RBufO.sh hb
 have hsm7 : B.length * 96 ≤ 140737488355328 := hl6.small
 refine WP_seq ?_
 refine WP_region0 (by kernel_rfl) (fun _ => ?_)
 refine st (ov_assign (v := .int .i64 (0)) rfl ?_)
 refine st_nil ?_
 refine WP_seq ?_
 refine WP_region0 (by kernel_rfl) (fun _ => ?_)
 refine st (ov_assign (v := .int .i64 (-1)) rfl ?_)
 refine st_nil ?_
 refine WP_seq ?_
 refine WP_seq ?_
 refine WP_region0 (by kernel_rfl) (fun _ => ?_)
 refine st (ov_assign (v := .int .i64 (0)) rfl ?_)
 refine st_nil ?_
 refine WP_block ?_
 refine WP_loop (fun mq σ wq => ∃ (k : Nat) (c9 : Int) (ρ : Env), mq = B.length - k ∧ σ = setAll ρ [(0, .pointer (some ⟨b, 0, none⟩)), (1, .pointer (some ⟨s, 0, none⟩)), (5, .int .i64 (c9)), (6, .int .i64 ((k : Nat) : Int))] ∧ (k ≤ B.length) ∧ (InR c9) ∧ (FirstL n L B k c9) ∧ Sep G W ((Blk s #[.int .i64 ((n : Nat) : Int), vl1] 78) :: (RowE (α := Ev) own 36 vl1 L) :: Rs) wq) ⟨0, (-1), _, rfl, setAll_self ⟨rfl, rfl, rfl, rfl, trivial⟩, Nat.zero_le _, (by decide), FirstL.start, hS2t⟩ ?_
 rintro m9 σ10 w8 ⟨k, c9, ρl1, rfl, rfl, hkk, hcI9, hF9, hS11⟩
 have hbd9 := hF9.bd
 refine WP_seq ?_
 refine WP_seq ?_
 refine WP_region0 (by kernel_rfl) (fun _ => ?_)
 refine st (ov_move (v := .int .i64 ((k : Nat) : Int)) rfl ?_)
 refine st (ov_move (v := .pointer (some ⟨b, 0, none⟩)) rfl ?_)
 refine st (ov_nilCheck (b := b) (o := 0) rfl ?_)
 refine st (fd76_1 rfl ?_)
 refine st (ov_load1 (v := vl4) Try.isAgg22 rfl (blk_cellL (hS11.gblk hb5) rfl) ?_)
 refine st (ov_len (n := B.length) Try.underlying22 rfl hl6.sl ?_)
 refine st (ov_lss (k := .i64) (a := ((k : Nat) : Int)) (b := ((B.length : Nat) : Int)) rfl rfl ?_)
 refine st_nil ?_
 cases hc12 : decide (((k : Nat) : Int) < ((B.length : Nat) : Int))
 ·skip
  have hc12r := hc12
  have hc12 := of_decide_eq_false hc12
  refine WP_cond_f rfl ?_
  refine WP_exit ?_
  refine blk_exit ?_
  refine WP_seq ?_
  refine WP_region0 (by kernel_rfl) (fun _ => ?_)
  refine st (ov_move (v := .int .i64 (c9)) rfl ?_)
  refine st (ov_assign (v := .int .i64 (c9)) rfl ?_)
  refine st_nil ?_
  refine WP_ret ?_
  refine fin1 Try.results60 (show _ = (.int .i64 (c9) : Value) from rfl) ?_
  have hS13 : Sep G W ((RefS s n L) :: Rs) w8 := RefS.close (n := n) (L := L) hS11
  refine ⟨c9, ?_, ?_, ?_, hS13⟩
  · rfl
  · exact hcI9
  · rw [show B.length = k by omega]; exact hF9
 ·skip
  have hc12r := hc12
  have hc12 := of_decide_eq_true hc12
  refine WP_cond_t rfl ?_
  refine WP_skip ?_
  refine WP_seq ?_
  refine WP_block ?_
  refine WP_seq ?_
  refine WP_draw4 (WF [fun vals wq => Sep G W ((Blk s #[.int .i64 ((n : Nat) : Int), vl1] 78) :: (RowE (α := Ev) own 36 vl1 L) :: Rs) wq, fun vals wq => ∃ (b88 : Nat), (vals 9 = (.pointer (some ⟨b88, 0, none⟩) : Value)) ∧ Sep G W ((Blk b88 #[.int .i64 ((n : Nat) : Int), vl1] 78) :: (Blk s #[.int .i64 ((n : Nat) : Int), vl1] 78) :: (RowE (α := Ev) own 36 vl1 L) :: Rs) wq]) (AF [Vl 0 (.pointer (some ⟨s, 0, none⟩)), Vl 1 (.pointer (some ⟨s, 0, none⟩)), Vl 2 (.pointer (some ⟨s, 0, none⟩)), Vl 3 (.int .i64 ((n : Nat) : Int)), Vl 4 (.pointer (some ⟨s, 0, none⟩)), Vl 5 (.pointer (some ⟨s, 0, none⟩)), Vl 6 (.pointer (some ⟨s, 1, none⟩)), Vl 7 (vl1), Vl 8 (.agg #[.int .i64 ((n : Nat) : Int), vl1]), fun _ => True, fun vals => ∀ (b88 : Nat), vals 9 = (.pointer (some ⟨b88, 0, none⟩) : Value) → vals 10 = (.pointer (some ⟨b88, 0, none⟩) : Value)]) [[], [0], [0, 1], [0, 1, 2], [], [4], [4, 5], [4, 5, 6], [0, 1, 2, 3, 4, 5, 6, 7], [0, 1, 2, 3, 4, 5, 6, 7, 8], [0, 1, 2, 3, 4, 5, 6, 7, 8, 9]] [9] [(0, 0), (0, 0), (0, 0), (0, 0), (0, 0), (0, 0), (0, 0), (0, 0), (0, 0), (0, 0), (1, 1)] (by kernel_rfl) (by kernel_rfl) (by kernel_rfl) rfl (by kernel_rfl) (by kernel_rfl) (fun _ h1 h2 h3 h4 _ => hS11.same h1 h2 h3 h4) ?_ (AF_loc ⟨dA, dA, dA, dA, dA, dA, dA, dA, dA, dT, fun vals vals' hv h => fun b88 hq0 => (hv 10 (.inl rfl)).trans (h b88 ((hv 9 (.inr (by decide))).symm.trans hq0)), trivial⟩) ⟨?_, ?_, ?_, ?_, ?_, ?_, ?_, ?_, ?_, ?_, ?_, trivial⟩ ?_
  ·intro k vals vals' w hv h
   have e : ∀ j ∈ ([9] : List Nat), vals' j = vals j := hv
   match k, h with
   | 0, h => exact h
   | 1, h => exact (by simpa only [WF, List.getElem?_cons_zero, List.getElem?_cons_succ, e 9 (by decide)] using h)
   | _ + 2, _ => trivial
  ·intro k99 vals w100 h103 h104 hW102 hA101
   refine obl rfl ?_
   exact ov_move (v := .pointer (some ⟨s, 0, none⟩)) rfl (fun vals' hv _ => ⟨rfl, hv⟩)
  ·intro k105 vals w106 h109 h110 hW108 hA107
   have e111 := hA107 0 (by decide)
   refine obl rfl ?_
   exact ov_nilCheck (b := s) (o := 0) e111 (fun vals' hv _ => ⟨rfl, hv⟩)
  ·intro k112 vals w113 h116 h117 hW115 hA114
   have e118 := hA114 1 (by decide)
   refine obl rfl ?_
   exact fd78_0 e118 (fun vals' hv _ => ⟨rfl, hv⟩)
  ·intro k119 vals w120 h123 h124 hW122 hA121
   obtain rfl : k119 = 0 := Nat.le_antisymm h124 h123
   have hS125 : Sep G W ((Blk s #[.int .i64 ((n : Nat) : Int), vl1] 78) :: (RowE (α := Ev) own 36 vl1 L) :: Rs) w120 := hW122
   have e126 := hA121 2 (by decide)
   refine obl rfl ?_
   exact ov_load1 (v := .int .i64 ((n : Nat) : Int)) Try.isAgg3 e126 (blk_cellL (hS125.blk (i := 0) rfl) rfl) (fun vals' hv _ => ⟨rfl, hv⟩)
  ·intro k127 vals w128 h131 h132 hW130 hA129
   refine obl rfl ?_
   exact ov_move (v := .pointer (some ⟨s, 0, none⟩)) rfl (fun vals' hv _ => ⟨rfl, hv⟩)
  ·intro k133 vals w134 h137 h138 hW136 hA135
   have e139 := hA135 4 (by decide)
   refine obl rfl ?_
   exact ov_nilCheck (b := s) (o := 0) e139 (fun vals' hv _ => ⟨rfl, hv⟩)
  ·intro k140 vals w141 h144 h145 hW143 hA142
   have e146 := hA142 5 (by decide)
   refine obl rfl ?_
   exact fd78_1 e146 (fun vals' hv _ => ⟨rfl, hv⟩)
  ·intro k147 vals w148 h151 h152 hW150 hA149
   obtain rfl : k147 = 0 := Nat.le_antisymm h152 h151
   have hS153 : Sep G W ((Blk s #[.int .i64 ((n : Nat) : Int), vl1] 78) :: (RowE (α := Ev) own 36 vl1 L) :: Rs) w148 := hW150
   have e154 := hA149 6 (by decide)
   refine obl rfl ?_
   exact ov_load1 (v := vl1) Try.isAgg22 e154 (blk_cellL (hS153.blk (i := 0) rfl) rfl) (fun vals' hv _ => ⟨rfl, hv⟩)
  ·intro k155 vals w156 h159 h160 hW158 hA157
   have e161 := hA157 3 (by decide)
   have e162 := hA157 7 (by decide)
   refine obl rfl ?_
   exact ov_build (parts' := [(0, .int .i64 ((n : Nat) : Int)), (1, vl1)]) (v := .agg #[.int .i64 ((n : Nat) : Int), vl1]) (mapP ⟨rfl, e161, rfl, e162, trivial⟩) (by obtain ⟨_, _, hv163, _⟩ := hr3.1; rw [show vl1 = Value.slice _ _ _ from hv163]; simp [Instr.build, Instr.fill, go_sem]) (fun vals' hv _ => ⟨rfl, hv⟩)
  ·intro k79 vals w80 h83 h84 hW82 hA81
   obtain rfl : k79 = 0 := Nat.le_antisymm h84 h83
   have hS85 : Sep G W ((Blk s #[.int .i64 ((n : Nat) : Int), vl1] 78) :: (RowE (α := Ev) own 36 vl1 L) :: Rs) w80 := hW82
   have e86 := hA81 8 (by decide)
   refine obl rfl ?_
   refine (ov_box (v := .agg #[.int .i64 ((n : Nat) : Int), vl1]) e86 ?_)
   intro w89 b88 hn87
   have hS90 : Sep G W ((Blk b88 #[.int .i64 ((n : Nat) : Int), vl1] 78) :: (Blk s #[.int .i64 ((n : Nat) : Int), vl1] 78) :: (RowE (α := Ev) own 36 vl1 L) :: Rs) w89 := hS85.new hn87
   intro vals' hv hv'
   refine ⟨?_, trivial⟩
   show ∃ (b88 : Nat), (vals' 9 = (.pointer (some ⟨b88, 0, none⟩) : Value)) ∧ Sep G W ((Blk b88 #[.int .i64 ((n : Nat) : Int), vl1] 78) :: (Blk s #[.int .i64 ((n : Nat) : Int), vl1] 78) :: (RowE (α := Ev) own 36 vl1 L) :: Rs) w89
   exact ⟨b88, hv, hS90⟩
  ·intro k164 vals w165 h168 h169 hW167 hA166
   obtain rfl : k164 = 1 := Nat.le_antisymm h169 h168
   obtain ⟨b88, he91, hS170⟩ := hW167
   refine obl rfl ?_
   refine ov_assign (v := .pointer (some ⟨b88, 0, none⟩)) he91 (fun vals' hv hv' => ⟨rfl, ?_⟩)
   intro b88q hq0
   rw [hv' 9 (by decide)] at hq0; cases he91.symm.trans hq0
   exact hv
  intro vals w171 hW172 hA173
  obtain ⟨b88, he91, hS174⟩ := hW172
  have e175 : vals 10 = (.pointer (some ⟨b88, 0, none⟩) : Value) := hA173 10 (by decide) b88 he91
  refine st_env (kv := [(0, .pointer (some ⟨b, 0, none⟩)), (1, .pointer (some ⟨s, 0, none⟩)), (5, .int .i64 (c9)), (6, .int .i64 ((k : Nat) : Int)), (8, .int .i64 ((k : Nat) : Int)), (9, .pointer (some ⟨b, 0, none⟩)), (10, .pointer (some ⟨b, 0, none⟩)), (11, .pointer (some ⟨b, 1, none⟩)), (12, vl4), (13, .int .i64 ((B.length : Nat) : Int)), (14, .bool true), (7, .pointer (some ⟨b88, 0, none⟩))]) ⟨rfl, rfl, rfl, rfl, rfl, rfl, rfl, rfl, rfl, rfl, rfl, (by exact e175), trivial⟩ (fun ρw171 => ?_)
  refine st_nil ?_
  refine WP_seq ?_
  have hS176 : Sep G W ((Blk b88 #[.int .i64 ((n : Nat) : Int), vl1] 78) :: (RowE (α := Ev) own 36 vl1 L) :: (Blk s #[.int .i64 ((n : Nat) : Int), vl1] 78) :: Rs) w171 := hS174.sel 3 [0, 2, 1] (Nat.le_add_left _ _) rfl rfl
  have hS177 : Sep G W ((RefP b88 vl1 n L) :: (Blk s #[.int .i64 ((n : Nat) : Int), vl1] 78) :: Rs) w171 := Sep.closeStar (Bs := [(Blk b88 #[.int .i64 ((n : Nat) : Int), vl1] 78), (RowE (α := Ev) own 36 vl1 L)]) hS176
  refine WP_draw4 (WF [fun vals wq => Sep G W ((RefP b88 vl1 n L) :: (Blk s #[.int .i64 ((n : Nat) : Int), vl1] 78) :: Rs) wq, fun vals wq => (vals 8 = (.int .i64 ((addE n L (B.getD k default))) : Value)) ∧ Sep G W ((RowE (α := Ev) own 36 vl1 L) :: (Blk s #[.int .i64 ((n : Nat) : Int), vl1] 78) :: Rs) wq, fun vals wq => (vals 8 = (.int .i64 ((addE n L (B.getD k default))) : Value)) ∧ (vals 28 = (if ((decide ((addE n L (B.getD k default)) = 0)) = true) ∧ (decide (c9 < 0)) = false then (.bool ((ltE (B.getD k default) (B.getD c9.toNat default))) : Value) else undef)) ∧ Sep G W ((RowE (α := Ev) own 36 vl1 L) :: (Blk s #[.int .i64 ((n : Nat) : Int), vl1] 78) :: Rs) wq]) (AF [Vl 0 (.pointer (some ⟨b88, 0, none⟩)), Vl 1 (.pointer (some ⟨b, 0, none⟩)), Vl 2 (.pointer (some ⟨b, 0, none⟩)), Vl 3 (.pointer (some ⟨b, 1, none⟩)), Vl 4 (vl4), Vl 5 (.int .i64 ((k : Nat) : Int)), Vl 6 (.pointer (some ⟨sb vl4, so vl4 + k * 10, none⟩)), Vl 7 (.agg ((B.getD k default).cells (cellV W (sb vl4) (so vl4 + k * 10 + 3))).toArray), fun _ => True, Vl 9 (.bool (decide ((addE n L (B.getD k default)) = 0))), Vl 10 (.bool (decide ((addE n L (B.getD k default)) = 0))), Vl 11 (if (decide ((addE n L (B.getD k default)) = 0)) = true then .int .i64 (c9) else undef), Vl 12 (if (decide ((addE n L (B.getD k default)) = 0)) = true then .bool (decide (c9 < 0)) else undef), Vl 13 (if (decide ((addE n L (B.getD k default)) = 0)) = true then .bool (decide (c9 < 0)) else undef), Vl 14 (if ((decide ((addE n L (B.getD k default)) = 0)) = true) ∧ (decide (c9 < 0)) = false then .pointer (some ⟨b, 0, none⟩) else undef), Vl 15 (if ((decide ((addE n L (B.getD k default)) = 0)) = true) ∧ (decide (c9 < 0)) = false then .pointer (some ⟨b, 0, none⟩) else undef), Vl 16 (if ((decide ((addE n L (B.getD k default)) = 0)) = true) ∧ (decide (c9 < 0)) = false then .pointer (some ⟨b, 1, none⟩) else undef), Vl 17 (if ((decide ((addE n L (B.getD k default)) = 0)) = true) ∧ (decide (c9 < 0)) = false then vl4 else undef), Vl 18 (if ((decide ((addE n L (B.getD k default)) = 0)) = true) ∧ (decide (c9 < 0)) = false then .int .i64 ((k : Nat) : Int) else undef), Vl 19 (if ((decide ((addE n L (B.getD k default)) = 0)) = true) ∧ (decide (c9 < 0)) = false then .pointer (some ⟨sb vl4, so vl4 + k * 10, none⟩) else undef), Vl 20 (if ((decide ((addE n L (B.getD k default)) = 0)) = true) ∧ (decide (c9 < 0)) = false then .agg ((B.getD k default).cells (cellV W (sb vl4) (so vl4 + k * 10 + 3))).toArray else undef), Vl 21 (if ((decide ((addE n L (B.getD k default)) = 0)) = true) ∧ (decide (c9 < 0)) = false then .pointer (some ⟨b, 0, none⟩) else undef), Vl 22 (if ((decide ((addE n L (B.getD k default)) = 0)) = true) ∧ (decide (c9 < 0)) = false then .pointer (some ⟨b, 0, none⟩) else undef), Vl 23 (if ((decide ((addE n L (B.getD k default)) = 0)) = true) ∧ (decide (c9 < 0)) = false then .pointer (some ⟨b, 1, none⟩) else undef), Vl 24 (if ((decide ((addE n L (B.getD k default)) = 0)) = true) ∧ (decide (c9 < 0)) = false then vl4 else undef), Vl 25 (if ((decide ((addE n L (B.getD k default)) = 0)) = true) ∧ (decide (c9 < 0)) = false then .int .i64 (c9) else undef), Vl 26 (if ((decide ((addE n L (B.getD k default)) = 0)) = true) ∧ (decide (c9 < 0)) = false then .pointer (some ⟨sb vl4, so vl4 + c9.toNat * 10, none⟩) else undef), Vl 27 (if ((decide ((addE n L (B.getD k default)) = 0)) = true) ∧ (decide (c9 < 0)) = false then .agg ((B.getD c9.toNat default).cells (cellV W (sb vl4) (so vl4 + c9.toNat * 10 + 3))).toArray else undef), fun _ => True, Vl 29 (if (decide ((addE n L (B.getD k default)) = 0)) = true then .bool ((decide (c9 < 0)) || (ltE (B.getD k default) (B.getD c9.toNat default))) else undef), Vl 30 (.bool ((decide ((addE n L (B.getD k default)) = 0)) && ((decide (c9 < 0)) || (ltE (B.getD k default) (B.getD c9.toNat default)))))]) [[], [], [1], [1, 2], [1, 2, 3], [], [1, 2, 3, 4, 5], [1, 2, 3, 4, 5, 6], [0, 1, 2, 3, 4, 5, 6, 7], [0, 1, 2, 3, 4, 5, 6, 7, 8], [0, 1, 2, 3, 4, 5, 6, 7, 8, 9], [0, 1, 2, 3, 4, 5, 6, 7, 8, 9, 10], [0, 1, 2, 3, 4, 5, 6, 7, 8, 9, 10, 11], [0, 1, 2, 3, 4, 5, 6, 7, 8, 9, 10, 11, 12], [0, 1, 2, 3, 4, 5, 6, 7, 8, 9, 10, 11, 12, 13], [0, 1, 2, 3, 4, 5, 6, 7, 8, 9, 10, 11, 12, 13, 14], [0, 1, 2, 3, 4, 5, 6, 7, 8, 9, 10, 11, 12, 13, 14, 15], [0, 1, 2, 3, 4, 5, 6, 7, 8, 9, 10, 11, 12, 13, 14, 15, 16], [0, 1, 2, 3, 4, 5, 6, 7, 8, 9, 10, 11, 12, 13], [0, 1, 2, 3, 4, 5, 6, 7, 8, 9, 10, 11, 12, 13, 14, 15, 16, 17, 18], [0, 1, 2, 3, 4, 5, 6, 7, 8, 9, 10, 11, 12, 13, 14, 15, 16, 17, 18, 19], [0, 1, 2, 3, 4, 5, 6, 7, 8, 9, 10, 11, 12, 13], [0, 1, 2, 3, 4, 5, 6, 7, 8, 9, 10, 11, 12, 13, 21], [0, 1, 2, 3, 4, 5, 6, 7, 8, 9, 10, 11, 12, 13, 21, 22], [0, 1, 2, 3, 4, 5, 6, 7, 8, 9, 10, 11, 12, 13, 21, 22, 23], [0, 1, 2, 3, 4, 5, 6, 7, 8, 9, 10, 11, 12, 13], [0, 1, 2, 3, 4, 5, 6, 7, 8, 9, 10, 11, 12, 13, 21, 22, 23, 24, 25], [0, 1, 2, 3, 4, 5, 6, 7, 8, 9, 10, 11, 12, 13, 21, 22, 23, 24, 25, 26], [0, 1, 2, 3, 4, 5, 6, 7, 8, 9, 10, 11, 12, 13, 14, 15, 16, 17, 18, 19, 20, 21, 22, 23, 24, 25, 26, 27], [0, 1, 2, 3, 4, 5, 6, 7, 8, 9, 10, 11, 12, 13, 14, 15, 16, 17, 18, 19, 20, 21, 22, 23, 24, 25, 26, 27, 28], [0, 1, 2, 3, 4, 5, 6, 7, 8, 9, 10, 11, 12, 13, 14, 15, 16, 17, 18, 19, 20, 21, 22, 23, 24, 25, 26, 27, 28, 29]] [8, 28] [(0, 0), (0, 0), (0, 0), (0, 0), (0, 0), (0, 0), (0, 0), (0, 0), (0, 0), (1, 1), (1, 1), (1, 1), (1, 1), (1, 1), (1, 1), (1, 1), (1, 1), (1, 1), (1, 1), (1, 1), (1, 1), (1, 1), (1, 1), (1, 1), (1, 1), (1, 1), (1, 1), (1, 1), (1, 1), (2, 2), (2, 2)] (by kernel_rfl) (by kernel_rfl) (by kernel_rfl) rfl (by kernel_rfl) (by kernel_rfl) (fun _ h1 h2 h3 h4 _ => hS177.same h1 h2 h3 h4) ?_ (AF_loc ⟨dA, dA, dA, dA, dA, dA, dA, dA, dT, dA, dA, dA, dA, dA, dA, dA, dA, dA, dA, dA, dA, dA, dA, dA, dA, dA, dA, dA, dT, dA, dA, trivial⟩) ⟨?_, ?_, ?_, ?_, ?_, ?_, ?_, ?_, ?_, ?_, ?_, ?_, ?_, ?_, ?_, ?_, ?_, ?_, ?_, ?_, ?_, ?_, ?_, ?_, ?_, ?_, ?_, ?_, ?_, ?_, ?_, trivial⟩ ?_
  ·intro k vals vals' w hv h
   have e : ∀ j ∈ ([8, 28] : List Nat), vals' j = vals j := hv
   match k, h with
   | 0, h => exact h
   | 1, h => exact (by simpa only [WF, List.getElem?_cons_zero, List.getElem?_cons_succ, e 8 (by decide)] using h)
   | 2, h => exact (by simpa only [WF, List.getElem?_cons_zero, List.getElem?_cons_succ, e 8 (by decide), e 28 (by decide)] using h)
   | _ + 3, _ => trivial
  ·intro k512 vals w513 h516 h517 hW515 hA514
   refine obl rfl ?_
   exact ov_move (v := .pointer (some ⟨b88, 0, none⟩)) rfl (fun vals' hv _ => ⟨rfl, hv⟩)
  ·intro k518 vals w519 h522 h523 hW521 hA520
   refine obl rfl ?_
   exact ov_move (v := .pointer (some ⟨b, 0, none⟩)) rfl (fun vals' hv _ => ⟨rfl, hv⟩)
  ·intro k524 vals w525 h528 h529 hW527 hA526
   have e530 := hA526 1 (by decide)
   refine obl rfl ?_
   exact ov_nilCheck (b := b) (o := 0) e530 (fun vals' hv _ => ⟨rfl, hv⟩)
  ·intro k531 vals w532 h535 h536 hW534 hA533
   have e537 := hA533 2 (by decide)
   refine obl rfl ?_
   exact fd76_1 e537 (fun vals' hv _ => ⟨rfl, hv⟩)
  ·intro k538 vals w539 h542 h543 hW541 hA540
   obtain rfl : k538 = 0 := Nat.le_antisymm h543 h542
   have hS544 : Sep G W ((RefP b88 vl1 n L) :: (Blk s #[.int .i64 ((n : Nat) : Int), vl1] 78) :: Rs) w539 := hW541
   have e545 := hA540 3 (by decide)
   refine obl rfl ?_
   exact ov_load1 (v := vl4) Try.isAgg22 e545 (blk_cellL (hS544.gblk hb5) rfl) (fun vals' hv _ => ⟨rfl, hv⟩)
  ·intro k546 vals w547 h550 h551 hW549 hA548
   refine obl rfl ?_
   exact ov_move (v := .int .i64 ((k : Nat) : Int)) rfl (fun vals' hv _ => ⟨rfl, hv⟩)
  ·intro k552 vals w553 h556 h557 hW555 hA554
   obtain rfl : k552 = 0 := Nat.le_antisymm h557 h556
   have hS558 : Sep G W ((RefP b88 vl1 n L) :: (Blk s #[.int .i64 ((n : Nat) : Int), vl1] 78) :: Rs) w553 := hW555
   have e559 := hA554 4 (by decide)
   have e560 := hA554 5 (by decide)
   refine obl rfl ?_
   have hi561 : k < B.length := (by first | omega | (simp only [lens]; omega))
   exact ov_indexAddrN (k := 10) (i := k) Try.underlying22 Try.sizeOf36 e559 hl6.sl e560 hi561 (fun vals' hv _ => ⟨rfl, hv⟩)
  ·intro k562 vals w563 h566 h567 hW565 hA564
   obtain rfl : k562 = 0 := Nat.le_antisymm h567 h566
   have hS568 : Sep G W ((RefP b88 vl1 n L) :: (Blk s #[.int .i64 ((n : Nat) : Int), vl1] 78) :: Rs) w563 := hW565
   have e569 := hA564 6 (by decide)
   refine obl rfl ?_
   have hi571 : k < B.length := (by first | omega | (simp only [lens]; omega))
   obtain ⟨hce570, hde570_0, hoke570⟩ := hl6.ev hi571
   rw [← getD_at default hi571] at hce570 hde570_0 hoke570
   have hsm572 : ((B.getD k default).deps).length * 8 ≤ 140737488355328 := hde570_0.small
   have hcw573 := hS568.cells hce570 (hl6.foot (ne_of_lt hi571))
   exact ov_loadk (k := 10) Try.isAgg36 Try.sizeOf36 rfl e569 hcw573 (fun vals' hv _ => ⟨rfl, hv⟩)
  ·intro k240 vals w241 h244 h245 hW243 hA242
   obtain rfl : k240 = 0 := Nat.le_antisymm h245 h244
   have hS246 : Sep G W ((RefP b88 vl1 n L) :: (Blk s #[.int .i64 ((n : Nat) : Int), vl1] 78) :: Rs) w241 := hW243
   have e247 := hA242 0 (by decide)
   have e248 := hA242 7 (by decide)
   refine obl rfl ?_
   have hi250 : k < B.length := (by first | omega | (simp only [lens]; omega))
   obtain ⟨hce249, hde249_0, hoke249⟩ := hl6.ev hi250
   rw [← getD_at default hi250] at hce249 hde249_0 hoke249
   have hsm251 : ((B.getD k default).deps).length * 8 ≤ 140737488355328 := hde249_0.small
   have hcw252 := hS246.cells hce249 (hl6.foot (ne_of_lt hi250))
   refine (ov_call (f := 22) (vals := [.pointer (some ⟨b88, 0, none⟩), .agg ((B.getD k default).cells (cellV W (sb vl4) (so vl4 + k * 10 + 3))).toArray]) (cap := []) (show _ = (.func (.func 22) #[] #[] : Value) from rfl) (mapL ⟨e247, e248, trivial⟩) Try.call22 (D_rAddQ (e := (B.getD k default)) hde249_0 hoke249 hS246 (by first | omega | (simp only [lens]; omega)) (by first | omega | (simp only [lens]; omega)) (by first | omega | (simp only [lens]; omega))) ?_)
   rintro _ w253 ⟨rfl, hS254⟩
   have hr255 := hS254.row (i := 0) rfl
   have hr255s : L.length * 96 ≤ 140737488355328 := hr255.2
   intro vals' hv hv'
   refine ⟨?_, trivial⟩
   show (vals' 8 = (.int .i64 ((addE n L (B.getD k default))) : Value)) ∧ Sep G W ((RowE (α := Ev) own 36 vl1 L) :: (Blk s #[.int .i64 ((n : Nat) : Int), vl1] 78) :: Rs) w253
   exact ⟨hv, hS254⟩
  ·intro k574 vals w575 h578 h579 hW577 hA576
   obtain rfl : k574 = 1 := Nat.le_antisymm h579 h578
   obtain ⟨he256, hS580⟩ := hW577
   refine obl rfl ?_
   exact ov_eql (k := .i64) (a := (addE n L (B.getD k default))) (b := 0) he256 rfl (fun vals' hv _ => ⟨rfl, hv⟩)
  ·intro k581 vals w582 h585 h586 hW584 hA583
   have e587 := hA583 9 (by decide)
   refine obl rfl ?_
   exact ov_move (v := .bool (decide ((addE n L (B.getD k default)) = 0))) e587 (fun vals' hv _ => ⟨rfl, hv⟩)
  ·intro k588 vals w589 h592 h593 hW591 hA590
   have e594 := hA590 10 (by decide)
   refine oblc rfl rfl e594 (fun hb595 => ?_) (fun hb595 => fun vals' hv _ => ⟨trivial, hv.trans (if_neg hb595).symm⟩)
   have hl596 := hb595
   have hl596 := of_decide_eq_true hl596
   exact ov_move (v := .int .i64 (c9)) rfl (fun vals' hv _ => ⟨rfl, hv.trans (if_pos hb595).symm⟩)
  ·intro k597 vals w598 h601 h602 hW600 hA599
   obtain rfl : k597 = 1 := Nat.le_antisymm h602 h601
   obtain ⟨he256, hS603⟩ := hW600
   have e604 := hA599 10 (by decide)
   have e605 : vals 11 = (if (decide ((addE n L (B.getD k default)) = 0)) = true then (.int .i64 (c9) : Value) else undef) := hA599 11 (by decide)
   refine oblc rfl rfl e604 (fun hb606 => ?_) (fun hb606 => fun vals' hv _ => ⟨trivial, hv.trans (if_neg hb606).symm⟩)
   have hl607 := hb606
   have hl607 := of_decide_eq_true hl607
   exact ov_lss (k := .i64) (a := c9) (b := 0) (show _ = (.int .i64 (c9) : Value) from (Eq.trans e605 (if_pos hb606))) rfl (fun vals' hv _ => ⟨rfl, hv.trans (if_pos hb606).symm⟩)
  ·intro k608 vals w609 h612 h613 hW611 hA610
   have e614 := hA610 10 (by decide)
   have e615 : vals 12 = (if (decide ((addE n L (B.getD k default)) = 0)) = true then (.bool (decide (c9 < 0)) : Value) else undef) := hA610 12 (by decide)
   refine oblc rfl rfl e614 (fun hb616 => ?_) (fun hb616 => fun vals' hv _ => ⟨trivial, hv.trans (if_neg hb616).symm⟩)
   have hl617 := hb616
   have hl617 := of_decide_eq_true hl617
   exact ov_move (v := .bool (decide (c9 < 0))) (show _ = (.bool (decide (c9 < 0)) : Value) from (Eq.trans e615 (if_pos hb616))) (fun vals' hv _ => ⟨rfl, hv.trans (if_pos hb616).symm⟩)
  ·intro k618 vals w619 h622 h623 hW621 hA620
   have e624 : vals 13 = (if (decide ((addE n L (B.getD k default)) = 0)) = true then (.bool (decide (c9 < 0)) : Value) else undef) := hA620 13 (by decide)
   refine oblcP rfl rfl e624 (fun hb625 => ?_) (fun hb625 => fun vals' hv _ => ⟨trivial, hv.trans (if_neg hb625).symm⟩)
   have hl626 := hb625.1
   have hl626 := of_decide_eq_true hl626
   have hl627 := hb625.2
   have hl627 := of_decide_eq_false hl627
   exact ov_move (v := .pointer (some ⟨b, 0, none⟩)) rfl (fun vals' hv _ => ⟨rfl, hv.trans (if_pos hb625).symm⟩)
  ·intro k628 vals w629 h632 h633 hW631 hA630
   have e634 : vals 13 = (if (decide ((addE n L (B.getD k default)) = 0)) = true then (.bool (decide (c9 < 0)) : Value) else undef) := hA630 13 (by decide)
   have e635 : vals 14 = (if ((decide ((addE n L (B.getD k default)) = 0)) = true) ∧ (decide (c9 < 0)) = false then (.pointer (some ⟨b, 0, none⟩) : Value) else undef) := hA630 14 (by decide)
   refine oblcP rfl rfl e634 (fun hb636 => ?_) (fun hb636 => fun vals' hv _ => ⟨trivial, hv.trans (if_neg hb636).symm⟩)
   have hl637 := hb636.1
   have hl637 := of_decide_eq_true hl637
   have hl638 := hb636.2
   have hl638 := of_decide_eq_false hl638
   exact ov_nilCheck (b := b) (o := 0) (show _ = (.pointer (some ⟨b, 0, none⟩) : Value) from (Eq.trans e635 (if_pos ⟨hb636.1, hb636.2⟩))) (fun vals' hv _ => ⟨rfl, hv.trans (if_pos hb636).symm⟩)
  ·intro k639 vals w640 h643 h644 hW642 hA641
   have e645 : vals 13 = (if (decide ((addE n L (B.getD k default)) = 0)) = true then (.bool (decide (c9 < 0)) : Value) else undef) := hA641 13 (by decide)
   have e646 : vals 15 = (if ((decide ((addE n L (B.getD k default)) = 0)) = true) ∧ (decide (c9 < 0)) = false then (.pointer (some ⟨b, 0, none⟩) : Value) else undef) := hA641 15 (by decide)
   refine oblcP rfl rfl e645 (fun hb647 => ?_) (fun hb647 => fun vals' hv _ => ⟨trivial, hv.trans (if_neg hb647).symm⟩)
   have hl648 := hb647.1
   have hl648 := of_decide_eq_true hl648
   have hl649 := hb647.2
   have hl649 := of_decide_eq_false hl649
   exact fd76_1 (show _ = (.pointer (some ⟨b, 0, none⟩) : Value) from (Eq.trans e646 (if_pos ⟨hb647.1, hb647.2⟩))) (fun vals' hv _ => ⟨rfl, hv.trans (if_pos hb647).symm⟩)
  ·intro k650 vals w651 h654 h655 hW653 hA652
   obtain rfl : k650 = 1 := Nat.le_antisymm h655 h654
   obtain ⟨he256, hS656⟩ := hW653
   have e657 : vals 13 = (if (decide ((addE n L (B.getD k default)) = 0)) = true then (.bool (decide (c9 < 0)) : Value) else undef) := hA652 13 (by decide)
   have e658 : vals 16 = (if ((decide ((addE n L (B.getD k default)) = 0)) = true) ∧ (decide (c9 < 0)) = false then (.pointer (some ⟨b, 1, none⟩) : Value) else undef) := hA652 16 (by decide)
   refine oblcP rfl rfl e657 (fun hb659 => ?_) (fun hb659 => fun vals' hv _ => ⟨trivial, hv.trans (if_neg hb659).symm⟩)
   have hl660 := hb659.1
   have hl660 := of_decide_eq_true hl660
   have hl661 := hb659.2
   have hl661 := of_decide_eq_false hl661
   exact ov_load1 (v := vl4) Try.isAgg22 (show _ = (.pointer (some ⟨b, 1, none⟩) : Value) from (Eq.trans e658 (if_pos ⟨hb659.1, hb659.2⟩))) (blk_cellL (hS656.gblk hb5) rfl) (fun vals' hv _ => ⟨rfl, hv.trans (if_pos hb659).symm⟩)
  ·intro k662 vals w663 h666 h667 hW665 hA664
   have e668 : vals 13 = (if (decide ((addE n L (B.getD k default)) = 0)) = true then (.bool (decide (c9 < 0)) : Value) else undef) := hA664 13 (by decide)
   refine oblcP rfl rfl e668 (fun hb669 => ?_) (fun hb669 => fun vals' hv _ => ⟨trivial, hv.trans (if_neg hb669).symm⟩)
   have hl670 := hb669.1
   have hl670 := of_decide_eq_true hl670
   have hl671 := hb669.2
   have hl671 := of_decide_eq_false hl671
   exact ov_move (v := .int .i64 ((k : Nat) : Int)) rfl (fun vals' hv _ => ⟨rfl, hv.trans (if_pos hb669).symm⟩)
  ·intro k672 vals w673 h676 h677 hW675 hA674
   obtain rfl : k672 = 1 := Nat.le_antisymm h677 h676
   obtain ⟨he256, hS678⟩ := hW675
   have e679 : vals 13 = (if (decide ((addE n L (B.getD k default)) = 0)) = true then (.bool (decide (c9 < 0)) : Value) else undef) := hA674 13 (by decide)
   have e680 : vals 17 = (if ((decide ((addE n L (B.getD k default)) = 0)) = true) ∧ (decide (c9 < 0)) = false then (vl4 : Value) else undef) := hA674 17 (by decide)
   have e681 : vals 18 = (if ((decide ((addE n L (B.getD k default)) = 0)) = true) ∧ (decide (c9 < 0)) = false then (.int .i64 ((k : Nat) : Int) : Value) else undef) := hA674 18 (by decide)
   refine oblcP rfl rfl e679 (fun hb682 => ?_) (fun hb682 => fun vals' hv _ => ⟨trivial, hv.trans (if_neg hb682).symm⟩)
   have hl683 := hb682.1
   have hl683 := of_decide_eq_true hl683
   have hl684 := hb682.2
   have hl684 := of_decide_eq_false hl684
   have hi685 : k < B.length := (by first | omega | (simp only [lens]; omega))
   exact ov_indexAddrN (k := 10) (i := k) Try.underlying22 Try.sizeOf36 (show _ = (vl4 : Value) from (Eq.trans e680 (if_pos ⟨hb682.1, hb682.2⟩))) hl6.sl (show _ = (.int .i64 ((k : Nat) : Int) : Value) from (Eq.trans e681 (if_pos ⟨hb682.1, hb682.2⟩))) hi685 (fun vals' hv _ => ⟨rfl, hv.trans (if_pos hb682).symm⟩)
  ·intro k686 vals w687 h690 h691 hW689 hA688
   obtain rfl : k686 = 1 := Nat.le_antisymm h691 h690
   obtain ⟨he256, hS692⟩ := hW689
   have e693 : vals 13 = (if (decide ((addE n L (B.getD k default)) = 0)) = true then (.bool (decide (c9 < 0)) : Value) else undef) := hA688 13 (by decide)
   have e694 : vals 19 = (if ((decide ((addE n L (B.getD k default)) = 0)) = true) ∧ (decide (c9 < 0)) = false then (.pointer (some ⟨sb vl4, so vl4 + k * 10, none⟩) : Value) else undef) := hA688 19 (by decide)
   refine oblcP rfl rfl e693 (fun hb695 => ?_) (fun hb695 => fun vals' hv _ => ⟨trivial, hv.trans (if_neg hb695).symm⟩)
   have hl696 := hb695.1
   have hl696 := of_decide_eq_true hl696
   have hl697 := hb695.2
   have hl697 := of_decide_eq_false hl697
   have hi699 : k < B.length := (by first | omega | (simp only [lens]; omega))
   obtain ⟨hce698, hde698_0, hoke698⟩ := hl6.ev hi699
   rw [← getD_at default hi699] at hce698 hde698_0 hoke698
   have hsm700 : ((B.getD k default).deps).length * 8 ≤ 140737488355328 := hde698_0.small
   have hcw701 := hS692.cells hce698 (hl6.foot (ne_of_lt hi699))
   exact ov_loadk (k := 10) Try.isAgg36 Try.sizeOf36 rfl (show _ = (.pointer (some ⟨sb vl4, so vl4 + k * 10, none⟩) : Value) from (Eq.trans e694 (if_pos ⟨hb695.1, hb695.2⟩))) hcw701 (fun vals' hv _ => ⟨rfl, hv.trans (if_pos hb695).symm⟩)
  ·intro k702 vals w703 h706 h707 hW705 hA704
   have e708 : vals 13 = (if (decide ((addE n L (B.getD k default)) = 0)) = true then (.bool (decide (c9 < 0)) : Value) else undef) := hA704 13 (by decide)
   refine oblcP rfl rfl e708 (fun hb709 => ?_) (fun hb709 => fun vals' hv _ => ⟨trivial, hv.trans (if_neg hb709).symm⟩)
   have hl710 := hb709.1
   have hl710 := of_decide_eq_true hl710
   have hl711 := hb709.2
   have hl711 := of_decide_eq_false hl711
   exact ov_move (v := .pointer (some ⟨b, 0, none⟩)) rfl (fun vals' hv _ => ⟨rfl, hv.trans (if_pos hb709).symm⟩)
  ·intro k712 vals w713 h716 h717 hW715 hA714
   have e718 : vals 13 = (if (decide ((addE n L (B.getD k default)) = 0)) = true then (.bool (decide (c9 < 0)) : Value) else undef) := hA714 13 (by decide)
   have e719 : vals 21 = (if ((decide ((addE n L (B.getD k default)) = 0)) = true) ∧ (decide (c9 < 0)) = false then (.pointer (some ⟨b, 0, none⟩) : Value) else undef) := hA714 21 (by decide)
   refine oblcP rfl rfl e718 (fun hb720 => ?_) (fun hb720 => fun vals' hv _ => ⟨trivial, hv.trans (if_neg hb720).symm⟩)
   have hl721 := hb720.1
   have hl721 := of_decide_eq_true hl721
   have hl722 := hb720.2
   have hl722 := of_decide_eq_false hl722
   exact ov_nilCheck (b := b) (o := 0) (show _ = (.pointer (some ⟨b, 0, none⟩) : Value) from (Eq.trans e719 (if_pos ⟨hb720.1, hb720.2⟩))) (fun vals' hv _ => ⟨rfl, hv.trans (if_pos hb720).symm⟩)
  ·intro k723 vals w724 h727 h728 hW726 hA725
   have e729 : vals 13 = (if (decide ((addE n L (B.getD k default)) = 0)) = true then (.bool (decide (c9 < 0)) : Value) else undef) := hA725 13 (by decide)
   have e730 : vals 22 = (if ((decide ((addE n L (B.getD k default)) = 0)) = true) ∧ (decide (c9 < 0)) = false then (.pointer (some ⟨b, 0, none⟩) : Value) else undef) := hA725 22 (by decide)
   refine oblcP rfl rfl e729 (fun hb731 => ?_) (fun hb731 => fun vals' hv _ => ⟨trivial, hv.trans (if_neg hb731).symm⟩)
   have hl732 := hb731.1
   have hl732 := of_decide_eq_true hl732
   have hl733 := hb731.2
   have hl733 := of_decide_eq_false hl733
   exact fd76_1 (show _ = (.pointer (some ⟨b, 0, none⟩) : Value) from (Eq.trans e730 (if_pos ⟨hb731.1, hb731.2⟩))) (fun vals' hv _ => ⟨rfl, hv.trans (if_pos hb731).symm⟩)
  ·intro k734 vals w735 h738 h739 hW737 hA736
   obtain rfl : k734 = 1 := Nat.le_antisymm h739 h738
   obtain ⟨he256, hS740⟩ := hW737
   have e741 : vals 13 = (if (decide ((addE n L (B.getD k default)) = 0)) = true then (.bool (decide (c9 < 0)) : Value) else undef) := hA736 13 (by decide)
   have e742 : vals 23 = (if ((decide ((addE n L (B.getD k default)) = 0)) = true) ∧ (decide (c9 < 0)) = false then (.pointer (some ⟨b, 1, none⟩) : Value) else undef) := hA736 23 (by decide)
   refine oblcP rfl rfl e741 (fun hb743 => ?_) (fun hb743 => fun vals' hv _ => ⟨trivial, hv.trans (if_neg hb743).symm⟩)
   have hl744 := hb743.1
   have hl744 := of_decide_eq_true hl744
   have hl745 := hb743.2
   have hl745 := of_decide_eq_false hl745
   exact ov_load1 (v := vl4) Try.isAgg22 (show _ = (.pointer (some ⟨b, 1, none⟩) : Value) from (Eq.trans e742 (if_pos ⟨hb743.1, hb743.2⟩))) (blk_cellL (hS740.gblk hb5) rfl) (fun vals' hv _ => ⟨rfl, hv.trans (if_pos hb743).symm⟩)
  ·intro k746 vals w747 h750 h751 hW749 hA748
   have e752 : vals 13 = (if (decide ((addE n L (B.getD k default)) = 0)) = true then (.bool (decide (c9 < 0)) : Value) else undef) := hA748 13 (by decide)
   refine oblcP rfl rfl e752 (fun hb753 => ?_) (fun hb753 => fun vals' hv _ => ⟨trivial, hv.trans (if_neg hb753).symm⟩)
   have hl754 := hb753.1
   have hl754 := of_decide_eq_true hl754
   have hl755 := hb753.2
   have hl755 := of_decide_eq_false hl755
   exact ov_move (v := .int .i64 (c9)) rfl (fun vals' hv _ => ⟨rfl, hv.trans (if_pos hb753).symm⟩)
  ·intro k756 vals w757 h760 h761 hW759 hA758
   obtain rfl : k756 = 1 := Nat.le_antisymm h761 h760
   obtain ⟨he256, hS762⟩ := hW759
   have e763 : vals 13 = (if (decide ((addE n L (B.getD k default)) = 0)) = true then (.bool (decide (c9 < 0)) : Value) else undef) := hA758 13 (by decide)
   have e764 : vals 24 = (if ((decide ((addE n L (B.getD k default)) = 0)) = true) ∧ (decide (c9 < 0)) = false then (vl4 : Value) else undef) := hA758 24 (by decide)
   have e765 : vals 25 = (if ((decide ((addE n L (B.getD k default)) = 0)) = true) ∧ (decide (c9 < 0)) = false then (.int .i64 (c9) : Value) else undef) := hA758 25 (by decide)
   refine oblcP rfl rfl e763 (fun hb766 => ?_) (fun hb766 => fun vals' hv _ => ⟨trivial, hv.trans (if_neg hb766).symm⟩)
   have hl767 := hb766.1
   have hl767 := of_decide_eq_true hl767
   have hl768 := hb766.2
   have hl768 := of_decide_eq_false hl768
   have hi769 : c9.toNat < B.length := by omega
   exact ov_indexAddr (k := 10) (i := c9) Try.underlying22 Try.sizeOf36 (show _ = (vl4 : Value) from (Eq.trans e764 (if_pos ⟨hb766.1, hb766.2⟩))) hl6.sl (show _ = (.int .i64 (c9) : Value) from (Eq.trans e765 (if_pos ⟨hb766.1, hb766.2⟩))) ⟨by omega, by omega⟩ (fun vals' hv _ => ⟨rfl, hv.trans (if_pos hb766).symm⟩)
  ·intro k770 vals w771 h774 h775 hW773 hA772
   obtain rfl : k770 = 1 := Nat.le_antisymm h775 h774
   obtain ⟨he256, hS776⟩ := hW773
   have e777 : vals 13 = (if (decide ((addE n L (B.getD k default)) = 0)) = true then (.bool (decide (c9 < 0)) : Value) else undef) := hA772 13 (by decide)
   have e778 : vals 26 = (if ((decide ((addE n L (B.getD k default)) = 0)) = true) ∧ (decide (c9 < 0)) = false then (.pointer (some ⟨sb vl4, so vl4 + c9.toNat * 10, none⟩) : Value) else undef) := hA772 26 (by decide)
   refine oblcP rfl rfl e777 (fun hb779 => ?_) (fun hb779 => fun vals' hv _ => ⟨trivial, hv.trans (if_neg hb779).symm⟩)
   have hl780 := hb779.1
   have hl780 := of_decide_eq_true hl780
   have hl781 := hb779.2
   have hl781 := of_decide_eq_false hl781
   have hi783 : c9.toNat < B.length := (by first | omega | (simp only [lens]; omega))
   obtain ⟨hce782, hde782_0, hoke782⟩ := hl6.ev hi783
   rw [← getD_at default hi783] at hce782 hde782_0 hoke782
   have hsm784 : ((B.getD c9.toNat default).deps).length * 8 ≤ 140737488355328 := hde782_0.small
   have hcw785 := hS776.cells hce782 (hl6.foot (ne_of_lt hi783))
   exact ov_loadk (k := 10) Try.isAgg36 Try.sizeOf36 rfl (show _ = (.pointer (some ⟨sb vl4, so vl4 + c9.toNat * 10, none⟩) : Value) from (Eq.trans e778 (if_pos ⟨hb779.1, hb779.2⟩))) hcw785 (fun vals' hv _ => ⟨rfl, hv.trans (if_pos hb779).symm⟩)
  ·intro k469 vals w470 h473 h474 hW472 hA471
   obtain rfl : k469 = 1 := Nat.le_antisymm h474 h473
   obtain ⟨he256, hS475⟩ := hW472
   have e476 : vals 13 = (if (decide ((addE n L (B.getD k default)) = 0)) = true then (.bool (decide (c9 < 0)) : Value) else undef) := hA471 13 (by decide)
   have e477 : vals 20 = (if ((decide ((addE n L (B.getD k default)) = 0)) = true) ∧ (decide (c9 < 0)) = false then (.agg ((B.getD k default).cells (cellV W (sb vl4) (so vl4 + k * 10 + 3))).toArray : Value) else undef) := hA471 20 (by decide)
   have e478 : vals 27 = (if ((decide ((addE n L (B.getD k default)) = 0)) = true) ∧ (decide (c9 < 0)) = false then (.agg ((B.getD c9.toNat default).cells (cellV W (sb vl4) (so vl4 + c9.toNat * 10 + 3))).toArray : Value) else undef) := hA471 27 (by decide)
   refine oblcP rfl rfl e476 (fun hb479 => ?_) (fun hb479 vals' hv hv' => ?_)
   ·skip
    have hl480 := hb479.1
    have hl480 := of_decide_eq_true hl480
    have hl481 := hb479.2
    have hl481 := of_decide_eq_false hl481
    have hi483 : k < B.length := (by first | omega | (simp only [lens]; omega))
    obtain ⟨hce482, hde482_0, hoke482⟩ := hl6.ev hi483
    rw [← getD_at default hi483] at hce482 hde482_0 hoke482
    have hsm484 : ((B.getD k default).deps).length * 8 ≤ 140737488355328 := hde482_0.small
    have hcw485 := hS475.cells hce482 (hl6.foot (ne_of_lt hi483))
    have hi487 : c9.toNat < B.length := (by first | omega | (simp only [lens]; omega))
    obtain ⟨hce486, hde486_0, hoke486⟩ := hl6.ev hi487
    rw [← getD_at default hi487] at hce486 hde486_0 hoke486
    have hsm488 : ((B.getD c9.toNat default).deps).length * 8 ≤ 140737488355328 := hde486_0.small
    have hcw489 := hS475.cells hce486 (hl6.foot (ne_of_lt hi487))
    refine (ov_call (f := 56) (vals := [.agg ((B.getD k default).cells (cellV W (sb vl4) (so vl4 + k * 10 + 3))).toArray, .agg ((B.getD c9.toNat default).cells (cellV W (sb vl4) (so vl4 + c9.toNat * 10 + 3))).toArray]) (cap := []) (show _ = (.func (.func 56) #[] #[] : Value) from rfl) (mapL ⟨(show _ = (.agg ((B.getD k default).cells (cellV W (sb vl4) (so vl4 + k * 10 + 3))).toArray : Value) from (Eq.trans e477 (if_pos ⟨hb479.1, hb479.2⟩))), (show _ = (.agg ((B.getD c9.toNat default).cells (cellV W (sb vl4) (so vl4 + c9.toNat * 10 + 3))).toArray : Value) from (Eq.trans e478 (if_pos ⟨hb479.1, hb479.2⟩))), trivial⟩) Try.call56 (D_less9 (a := (B.getD k default)) (b := (B.getD c9.toNat default)) hde482_0 hoke482 hde486_0 hoke486 hS475) ?_)
    rintro _ w490 ⟨rfl, hS491⟩
    intro vals' hv hv'
    refine ⟨?_, trivial⟩
    show (vals' 8 = (.int .i64 ((addE n L (B.getD k default))) : Value)) ∧ (vals' 28 = (if ((decide ((addE n L (B.getD k default)) = 0)) = true) ∧ (decide (c9 < 0)) = false then (.bool ((ltE (B.getD k default) (B.getD c9.toNat default))) : Value) else undef)) ∧ Sep G W ((RowE (α := Ev) own 36 vl1 L) :: (Blk s #[.int .i64 ((n : Nat) : Int), vl1] 78) :: Rs) w490
    exact ⟨(by rw [hv' 8 (by decide)]; exact he256), (hv.trans (if_pos hb479).symm), hS491⟩
   ·skip
    refine ⟨?_, trivial⟩
    show (vals' 8 = (.int .i64 ((addE n L (B.getD k default))) : Value)) ∧ (vals' 28 = (if ((decide ((addE n L (B.getD k default)) = 0)) = true) ∧ (decide (c9 < 0)) = false then (.bool ((ltE (B.getD k default) (B.getD c9.toNat default))) : Value) else undef)) ∧ Sep G W ((RowE (α := Ev) own 36 vl1 L) :: (Blk s #[.int .i64 ((n : Nat) : Int), vl1] 78) :: Rs) w470
    exact ⟨(by rw [hv' 8 (by decide)]; exact he256), (hv.trans (if_neg hb479).symm), hS475⟩
  ·intro k786 vals w787 h790 h791 hW789 hA788
   obtain rfl : k786 = 2 := Nat.le_antisymm h791 h790
   obtain ⟨he256, he492, hS792⟩ := hW789
   have e793 := hA788 10 (by decide)
   have e794 : vals 13 = (if (decide ((addE n L (B.getD k default)) = 0)) = true then (.bool (decide (c9 < 0)) : Value) else undef) := hA788 13 (by decide)
   refine oblc rfl rfl e793 (fun hb795 => ?_) (fun hb795 => fun vals' hv _ => ⟨trivial, hv.trans (if_neg hb795).symm⟩)
   have hl796 := hb795
   have hl796 := of_decide_eq_true hl796
   exact ov_pick_or (b := decide (c9 < 0)) (b' := (ltE (B.getD k default) (B.getD c9.toNat default))) (show _ = (.bool (decide (c9 < 0)) : Value) from (Eq.trans e794 (if_pos hb795))) (fun hbp => (show _ = (.bool ((ltE (B.getD k default) (B.getD c9.toNat default))) : Value) from (Eq.trans he492 (if_pos ⟨hb795, hbp⟩)))) (fun vals' hv _ => ⟨rfl, hv.trans (if_pos hb795).symm⟩)
  ·intro k797 vals w798 h801 h802 hW800 hA799
   have e803 := hA799 10 (by decide)
   have e804 : vals 29 = (if (decide ((addE n L (B.getD k default)) = 0)) = true then (.bool ((decide (c9 < 0)) || (ltE (B.getD k default) (B.getD c9.toNat default))) : Value) else undef) := hA799 29 (by decide)
   refine obl rfl ?_
   exact ov_pick_and (b := decide ((addE n L (B.getD k default)) = 0)) (b' := (decide (c9 < 0)) || (ltE (B.getD k default) (B.getD c9.toNat default))) e803 (fun hbp => (show _ = (.bool ((decide (c9 < 0)) || (ltE (B.getD k default) (B.getD c9.toNat default))) : Value) from (Eq.trans e804 (if_pos hbp)))) (fun vals' hv _ => ⟨rfl, hv⟩)
  intro vals w805 hW806 hA807
  obtain ⟨he256, he492, hS808⟩ := hW806
  have e809 := hA807 30 (by decide)
  refine st_env (kv := [(0, .pointer (some ⟨b, 0, none⟩)), (1, .pointer (some ⟨s, 0, none⟩)), (5, .int .i64 (c9)), (6, .int .i64 ((k : Nat) : Int)), (8, .int .i64 ((k : Nat) : Int)), (9, .pointer (some ⟨b, 0, none⟩)), (10, .pointer (some ⟨b, 0, none⟩)), (11, .pointer (some ⟨b, 1, none⟩)), (12, vl4), (13, .int .i64 ((B.length : Nat) : Int)), (14, .bool true), (7, .pointer (some ⟨b88, 0, none⟩)), (57, .bool ((decide ((addE n L (B.getD k default)) = 0)) && ((decide (c9 < 0)) || (ltE (B.getD k default) (B.getD c9.toNat default)))))]) ⟨rfl, rfl, rfl, rfl, rfl, rfl, rfl, rfl, rfl, rfl, rfl, rfl, (by exact e809), trivial⟩ (fun ρw805 => ?_)
  refine st_nil ?_
  cases hc810 : (decide ((addE n L (B.getD k default)) = 0)) && ((decide (c9 < 0)) || (ltE (B.getD k default) (B.getD c9.toNat default)))
  ·skip
   have hc810r := hc810
   try simp only [bools] at hc810
   refine WP_cond_f rfl ?_
   refine WP_skip ?_
   refine WP_region0 (by kernel_rfl) (fun _ => ?_)
   refine st (ov_move (v := .int .i64 ((k : Nat) : Int)) rfl ?_)
   have hr811 : InR ((k + 1 : Nat) : Int) := by first | omega | (simp only [lens]; omega)
   refine st (ov_add (r := ((k + 1 : Nat) : Int)) (k := .i64) (a := ((k : Nat) : Int)) (b := 1) rfl rfl (by rw [show (((k : Nat) : Int) + 1 : Int) = ((k + 1 : Nat) : Int) by first | omega | (simp only [lens]; omega)]; exact wrap_in hr811) ?_)
   refine st (ov_assign (v := .int .i64 ((k + 1 : Nat) : Int)) rfl ?_)
   refine st_nil ?_
   have hS812 : Sep G W ((Blk s #[.int .i64 ((n : Nat) : Int), vl1] 78) :: (RowE (α := Ev) own 36 vl1 L) :: Rs) w805 := hS808.sel 2 [1, 0] (Nat.le_add_left _ _) rfl rfl
   exact ⟨_, by omega, k + 1, c9, _, rfl, setAll_self ⟨rfl, rfl, rfl, rfl, trivial⟩, by omega, hcI9, (hF9.skip hc810r), hS812⟩
  ·skip
   have hc810r := hc810
   try simp only [bools] at hc810
   refine WP_cond_t rfl ?_
   refine WP_region0 (by kernel_rfl) (fun _ => ?_)
   refine st (ov_move (v := .int .i64 ((k : Nat) : Int)) rfl ?_)
   refine st (ov_assign (v := .int .i64 ((k : Nat) : Int)) rfl ?_)
   refine st_nil ?_
   refine WP_region0 (by kernel_rfl) (fun _ => ?_)
   refine st (ov_move (v := .int .i64 ((k : Nat) : Int)) rfl ?_)
   have hr813 : InR ((k + 1 : Nat) : Int) := by first | omega | (simp only [lens]; omega)
   refine st (ov_add (r := ((k + 1 : Nat) : Int)) (k := .i64) (a := ((k : Nat) : Int)) (b := 1) rfl rfl (by rw [show (((k : Nat) : Int) + 1 : Int) = ((k + 1 : Nat) : Int) by first | omega | (simp only [lens]; omega)]; exact wrap_in hr813) ?_)
   refine st (ov_assign (v := .int .i64 ((k + 1 : Nat) : Int)) rfl ?_)
   refine st_nil ?_
   have hS814 : Sep G W ((Blk s #[.int .i64 ((n : Nat) : Int), vl1] 78) :: (RowE (α := Ev) own 36 vl1 L) :: Rs) w805 := hS808.sel 2 [1, 0] (Nat.le_add_left _ _) rfl rfl
   exact ⟨_, by omega, k + 1, ((k : Nat) : Int), _, rfl, setAll_self ⟨rfl, rfl, rfl, rfl, trivial⟩, by omega, (by show InR ((k : Nat) : Int); omega), (hF9.take hc810r), hS814⟩

end Go.Proofs.Ytmiihhbeclhaoaa
end

section
/- Plain laws of chapter 25: events that wait, in order. -/
set_option linter.unusedSimpArgs false
set_option linter.unusedVariables false
namespace Go.Proofs.Ytmiihhbeclhaoaa
open Go.Proofs Go.RowKit

def sortE (l : List Ev) : List Ev := l.foldl (fun S e => insE e S) []
section
variable {l A B L T : List Ev} {e : Ev} {n : Nat}
theorem sortE_snoc : sortE (l ++ [e]) = insE e (sortE l) := by unfold sortE; rw [List.foldl_append]; rfl
theorem foldI_perm : ∀ {l A : List Ev}, (l.foldl (fun S e => insE e S) A).Perm (A ++ l)
  | [], A => by rw [List.append_nil]; exact List.Perm.refl _
  | e :: l, A => by
    refine (foldI_perm (l := l) (A := insE e A)).trans ?_
    refine (insE_perm.append_right l).trans ?_
    exact List.perm_middle.symm
theorem sortE_perm : (sortE l).Perm l := by
  have := foldI_perm (l := l) (A := [])
  rwa [List.nil_append] at this
theorem foldI_srt : ∀ {l A : List Ev}, Srt A → ((A ++ l).map idE).Nodup → Srt (l.foldl (fun S e => insE e S) A)
  | [], A, h, _ => h
  | e :: l, A, h, hn => by
    have h1 : ((e :: A ++ l).map idE).Nodup := ((List.perm_middle (l₁ := A) (a := e) (l₂ := l)).map idE).nodup_iff.1 hn
    refine foldI_srt (l := l) (insE_srt h (fun hm => ?_)) ?_
    · rw [List.cons_append, List.map_cons, List.nodup_cons] at h1
      exact h1.1 (by rw [List.map_append]; exact List.mem_append_left _ hm)
    · exact (((insE_perm (e := e) (L := A)).append_right l).map idE).nodup_iff.2 h1
theorem sortE_srt (h : (l.map idE).Nodup) : Srt (sortE l) := foldI_srt (A := []) List.Pairwise.nil (by rwa [List.nil_append])
theorem srt_uniq : ∀ {A B : List Ev}, Srt A → Srt B → A.Perm B → A = B
  | [], B, _, _, h => h.nil_eq
  | a :: A, [], _, _, h => by simpa using h.length_eq
  | a :: A, b :: B, hA, hB, h => by
    have hA' := List.pairwise_cons.1 hA
    have hB' := List.pairwise_cons.1 hB
    have hab : a = b := by
      rcases List.mem_cons.1 (h.mem_iff.1 (List.mem_cons_self ..)) with h1 | h1
      · exact h1
      · rcases List.mem_cons.1 (h.mem_iff.2 (List.mem_cons_self ..)) with h2 | h2
        · exact h2.symm
        · exact absurd (hA'.1 b h2) (cmp_asym (hB'.1 a h1))
    subst hab
    rw [srt_uniq hA'.2 hB'.2 (List.perm_cons a |>.1 h)]
theorem sort_fil {p : Ev → Bool} (h : (l.map idE).Nodup) : sortE (l.filter p) = (sortE l).filter p :=
  srt_uniq (sortE_srt (List.Nodup.sublist (List.filter_sublist.map idE) h)) ((sortE_srt h).sublist List.filter_sublist) (sortE_perm.trans (sortE_perm.symm.filter p))
theorem sort_erase {q p : Nat} (h : (l.map idE).Nodup) (hq : q < l.length) (hp : p < (sortE l).length) (he : (sortE l).getD p default = l.getD q default) : sortE (l.eraseIdx q) = (sortE l).eraseIdx p := by
  have pe : ∀ {l : List Ev} {q : Nat}, q < l.length → l.Perm (l.getD q default :: l.eraseIdx q) := fun {l q} hq => by
    rw [getD_at _ hq, List.eraseIdx_eq_take_drop_succ]
    conv => lhs; rw [← List.take_append_drop q l, List.drop_eq_getElem_cons hq]
    exact List.perm_middle
  refine srt_uniq (sortE_srt (List.Nodup.sublist ((List.eraseIdx_sublist ..).map idE) h)) ((sortE_srt h).sublist (List.eraseIdx_sublist ..)) (sortE_perm.trans ?_)
  have h1 := pe hq
  have h2 := pe hp
  rw [he] at h2
  exact (List.perm_cons _).1 (h1.symm.trans (sortE_perm.symm.trans h2))
/-- How far the document tells what is ready. -/
structure RrI (n : Nat) (L S0 O T B : List Ev) : Prop where
  ids : (B.map idE).Nodup
  r : RdI n L S0 O T (sortE B)
theorem RrI.start {p : Ev → Bool} (hG : Good n L) (hi : (B.map idE).Nodup) (hl : L.length + B.length ≤ 1000000) : RrI n L ((sortE B).filter p) [] L (B.filter p) := by
  refine ⟨List.Nodup.sublist (List.filter_sublist.map idE) hi, ?_⟩
  rw [sort_fil hi]
  refine RdI.start hG ?_
  have h1 := List.length_filter_le p (sortE B)
  have h2 := (sortE_perm (l := B)).length_eq
  omega
theorem RrI.bd {S0 O : List Ev} (h : RrI n L S0 O T B) : T.length + B.length ≤ 1000000 ∧ O.length + B.length ≤ S0.length := by
  have h1 := h.r.len
  have h2 := h.r.ol
  have h3 := (sortE_perm (l := B)).length_eq
  omega
theorem RrI.step {S0 O : List Ev} {q : Nat} (h : RrI n L S0 O T B) (hf : FirstL n T B B.length (q : Int)) : q < B.length ∧ canE n T (B.getD q default) = true ∧ RrI n L S0 (O ++ [B.getD q default]) (addL n T (B.getD q default)) (B.eraseIdx q) := by
  rcases hf with ⟨h1, _⟩ | ⟨q', h1, hq, hc, hm⟩
  · omega
  obtain rfl : q = q' := by omega
  refine ⟨hq, hc, List.Nodup.sublist ((List.eraseIdx_sublist ..).map idE) h.ids, ?_⟩
  have he : B.getD q default ∈ sortE B := sortE_perm.mem_iff.2 (getD_mem hq)
  obtain ⟨p, hp, hpe⟩ := List.getElem_of_mem he
  have hpe' : (sortE B).getD p default = B.getD q default := by rw [getD_at _ hp]; exact hpe
  have h2 := RdI.step (q := p) h.r hp (by rw [hpe']; exact hc) (fun i hi => ?_)
  · rw [hpe'] at h2
    rw [sort_erase h.ids hq hp hpe']; exact h2
  · cases hb : canE n T ((sortE B).getD i default) with
    | false => rfl
    | true =>
      have hm1 : (sortE B).getD i default ∈ B := sortE_perm.mem_iff.1 (getD_mem (by omega))
      obtain ⟨i', hi', hie⟩ := List.getElem_of_mem hm1
      have hie' : B.getD i' default = (sortE B).getD i default := by rw [getD_at _ hi']; exact hie
      have h3 := hm i' hi' (by rw [hie']; exact hb)
      rw [hie', ← hpe'] at h3
      have h4 : cmpE ((sortE B).getD i default) ((sortE B).getD p default) < 0 := by
        rw [getD_at _ (by omega), getD_at _ hp]
        exact List.pairwise_iff_getElem.1 (sortE_srt h.ids) i p (by omega) hp hi
      rw [lt_cmp.2 h4] at h3; cases h3
theorem RrI.fin {S0 O : List Ev} {c : Int} (h : RrI n L S0 O T B) (hf : FirstL n T B B.length c) (hc : c < 0) : O = rdyO n L S0 ∧ (B.map idE).Nodup ∧ sortE B = rdyB n L S0 := by
  rcases hf with ⟨_, h1⟩ | ⟨q, h1, _⟩
  · have h2 := RdI.fin h.r (fun i hi => ?_)
    · exact ⟨h2.1, h.ids, h2.2⟩
    · have hm1 : (sortE B).getD i default ∈ B := sortE_perm.mem_iff.1 (getD_mem hi)
      obtain ⟨i', hi', hie⟩ := List.getElem_of_mem hm1
      have := h1 i' hi'
      rw [getD_at _ hi', hie] at this; exact this
  · omega
/-- What is left while those go that are there, from behind. -/
def curF (p : Ev → Bool) (B : List Ev) (k : Nat) : List Ev := B.take k ++ (B.drop k).filter fun x => !p x
variable {p : Ev → Bool} {j : Nat}
theorem cur_all : curF p B B.length = B := by unfold curF; rw [List.take_length, List.drop_length, List.filter_nil, List.append_nil]
theorem cur_zero : curF p B 0 = B.filter fun x => !p x := by unfold curF; rw [List.take_zero, List.drop_zero, List.nil_append]
theorem cur_at (hj : j < B.length) : j < (curF p B (j + 1)).length ∧ (curF p B (j + 1)).getD j default = B.getD j default := by
  have h1 : j < (curF p B (j + 1)).length := by unfold curF; rw [List.length_append, List.length_take]; omega
  refine ⟨h1, ?_⟩
  have h2 : (curF p B (j + 1))[j]? = some B[j] := by
    unfold curF
    rw [List.getElem?_append_left (by rw [List.length_take]; omega), List.getElem?_take, if_pos (Nat.lt_succ_self j), List.getElem?_eq_getElem hj]
  rw [getD_at _ h1, getD_at _ hj]
  exact (List.getElem?_eq_some_iff.1 h2).2
theorem cur_keep (hj : j < B.length) (h : p (B.getD j default) = false) : curF p B (j + 1) = curF p B j := by
  rw [getD_at _ hj] at h
  unfold curF
  rw [List.drop_eq_getElem_cons hj, List.filter_cons, if_pos (by rw [h]; rfl), List.take_succ_eq_append_getElem hj, List.append_assoc]; rfl
theorem cur_drop (hj : j < B.length) (h : p (B.getD j default) = true) : (curF p B (j + 1)).eraseIdx j = curF p B j := by
  rw [getD_at _ hj] at h
  unfold curF
  rw [List.drop_eq_getElem_cons hj, List.filter_cons, if_neg (by rw [h]; decide), List.eraseIdx_append_of_lt_length (by rw [List.length_take]; omega), List.take_succ_eq_append_getElem hj, List.eraseIdx_append_of_length_le (by rw [List.length_take]; omega)]
  rw [List.length_take, Nat.min_eq_left (by omega), Nat.sub_self]
  simp
theorem cur_len : (curF p B j).length ≤ B.length := by
  have h1 := List.length_filter_le (fun x => !p x) (B.drop j)
  unfold curF
  rw [List.length_append, List.length_take]
  rw [List.length_drop] at h1
  omega
end
end Go.Proofs.Ytmiihhbeclhaoaa
end

section
/- Steps of the proofs of this seat: part D14. -/
set_option linter.unusedSimpArgs false
set_option linter.unusedVariables false
set_option maxRecDepth 8000
set_option maxHeartbeats 4000000
namespace Go.Proofs.Ytmiihhbeclhaoaa
open Go.Proofs Go.RowKit

theorem D_rReady {G : Nat → Prop} {W w : World} {Rs : List HP} {b : Nat} {most : Int} {B : List Ev} {s : Nat} {n : Nat} {L : List Ev} (hs : (RefS s n L).p W G) (hS0 : Sep G W ((RBufO b most B) :: Rs) w) (hmost : InR most) (hG : Good n L) (hn9 : n ≤ 1000) (hids : (B.map idE).Nodup) (hLB : L.length + B.length ≤ 1000000) : Ret Try.prog 28 [.pointer (some ⟨b, 0, none⟩), .pointer (some ⟨s, 0, none⟩)] w (fun r w' => ∃ (v : Value) (B2 : List Ev), r = (v : Value) ∧ ((B2.map idE).Nodup) ∧ (sortE B2 = rdyB n L ((sortE B).filter (fun x => !hadE L x))) ∧ Sep G W ((RowE (α := Ev) own 36 v (rdyO n L ((sortE B).filter (fun x => !hadE L x)))) :: (RBufO b most B2) :: Rs) w') := by
 refine Calls_of_WP (args := [.pointer (some ⟨b, 0, none⟩), .pointer (some ⟨s, 0, none⟩)]) Try.func28 rfl rfl ?_
 obtain ⟨vl1, hb2, hl3⟩ := RefS.sh hs
 have hsm4 : L.length * 96 ≤ 140737488355328 := hl3.small
 refine WP_seq ?_
 refine WP_region0 (by kernel_rfl) (fun _ => ?_)
 refine st (ov_assign (v := (.slice none 0 0)) rfl ?_)
 refine st_nil ?_
 refine WP_seq ?_
 refine WP_seq ?_
 obtain ⟨vl5, hS6⟩ := RBufO.open hS0
 have hS6t : Sep G W ((Blk b #[.int .i64 (most), vl5] 76) :: (EvW vl5 36 3 B) :: Rs) w := hS6
 have hes7 : B.length * 96 ≤ 140737488355328 := (hS6t.evwSl (i := 1) rfl).2
 refine WP_region0 (by kernel_rfl) (fun _ => ?_)
 refine st (ov_move (v := .pointer (some ⟨b, 0, none⟩)) rfl ?_)
 refine st (ov_nilCheck (b := b) (o := 0) rfl ?_)
 refine st (fd76_1 rfl ?_)
 refine st (ov_load1 (v := vl5) Try.isAgg22 rfl (blk_cellL (hS6t.blk (i := 0) rfl) rfl) ?_)
 refine st (ov_len (n := B.length) Try.underlying22 rfl (hS6t.evwSl (i := 1) rfl).1 ?_)
 have hr8 : InR (((B.length : Nat) : Int) - 1) := by omega
 refine st (ov_sub (r := ((B.length : Nat) : Int) - 1) (k := .i64) (a := ((B.length : Nat) : Int)) (b := 1) rfl rfl (wrap_in hr8) ?_)
 refine st (ov_assign (v := .int .i64 (((B.length : Nat) : Int) - 1)) rfl ?_)
 refine st_nil ?_
 refine WP_block ?_
 have hS9 : Sep G W ((RBufO b most B) :: Rs) w := RBufO.close (most := most) (B := B) hS6t
 refine WP_loop (fun mq σ wq => ∃ (k : Nat) (ρ : Env), mq = k + 1 ∧ σ = setAll ρ [(0, .pointer (some ⟨b, 0, none⟩)), (1, .pointer (some ⟨s, 0, none⟩)), (5, .int .i64 (((k : Nat) : Int) - 1))] ∧ (k ≤ B.length) ∧ Sep G W ((RBufO b most (curF (hadE L) B k)) :: Rs) wq) ⟨B.length, _, rfl, setAll_self ⟨rfl, rfl, rfl, trivial⟩, (Nat.le_refl _), (by rw [cur_all]; exact hS9)⟩ ?_
 rintro m11 σ12 w10 ⟨k, ρl1, rfl, rfl, hkk, hS13⟩
 refine WP_seq ?_
 refine WP_seq ?_
 refine WP_region0 (by kernel_rfl) (fun _ => ?_)
 refine st (ov_move (v := .int .i64 (((k : Nat) : Int) - 1)) rfl ?_)
 refine st (ov_geq (k := .i64) (a := ((k : Nat) : Int) - 1) (b := 0) rfl rfl ?_)
 refine st_nil ?_
 cases hc14 : decide (0 ≤ (((k : Nat) : Int) - 1))
 ·skip
  have hc14r := hc14
  have hc14 := of_decide_eq_false hc14
  refine WP_cond_f rfl ?_
  refine WP_exit ?_
  refine blk_exit ?_
  refine WP_seq ?_
  obtain rfl : k = 0 := by omega
  rw [cur_zero] at hS13
  have hS15 : Sep G W ((RBufO b most (B.filter (fun x => !hadE L x))) :: Rs) w10 := hS13
  refine WP_region0 (by kernel_rfl) (fun _ => ?_)
  refine st (ov_move (v := .pointer (some ⟨s, 0, none⟩)) rfl ?_)
  refine st (ov_nilCheck (b := s) (o := 0) rfl ?_)
  refine st (fd78_0 rfl ?_)
  refine st (ov_load1 (v := .int .i64 ((n : Nat) : Int)) Try.isAgg3 rfl (blk_cellL (hS15.gblk hb2) rfl) ?_)
  refine st (ov_call (f := 21) (vals := [.int .i64 ((n : Nat) : Int)]) (cap := []) (show _ = (.func (.func 21) #[] #[] : Value) from rfl) rfl Try.call21 (D_rNew (n := n) (by first | omega | (refine ⟨?_, ?_⟩ <;> omega)) hS15) ?_)
  rintro _ w17 ⟨b16, rfl, hS18⟩
  refine st (ov_assign (v := .pointer (some ⟨b16, 0, none⟩)) rfl ?_)
  refine st_nil ?_
  refine WP_seq ?_
  refine WP_seq ?_
  refine WP_region0 (by kernel_rfl) (fun _ => ?_)
  refine st (ov_assign (v := .int .i64 (0)) rfl ?_)
  refine st_nil ?_
  refine WP_block ?_
  refine WP_loop (fun mq σ wq => ∃ (k : Nat) (ρ : Env), mq = L.length - k ∧ σ = setAll ρ [(0, .pointer (some ⟨b, 0, none⟩)), (1, .pointer (some ⟨s, 0, none⟩)), (8, .pointer (some ⟨b16, 0, none⟩)), (9, .int .i64 ((k : Nat) : Int))] ∧ (k ≤ L.length) ∧ Sep G W ((RefS b16 n (laidL n (L.take k))) :: (RBufO b most (B.filter (fun x => !hadE L x))) :: Rs) wq) ⟨0, _, rfl, setAll_self ⟨rfl, rfl, rfl, rfl, trivial⟩, Nat.zero_le _, hS18⟩ ?_
  rintro m20 σ21 w19 ⟨k, ρl2, rfl, rfl, hkk, hS22⟩
  refine WP_seq ?_
  refine WP_seq ?_
  refine WP_region0 (by kernel_rfl) (fun _ => ?_)
  refine st (ov_move (v := .int .i64 ((k : Nat) : Int)) rfl ?_)
  refine st (ov_move (v := .pointer (some ⟨s, 0, none⟩)) rfl ?_)
  refine st (ov_nilCheck (b := s) (o := 0) rfl ?_)
  refine st (fd78_1 rfl ?_)
  refine st (ov_load1 (v := vl1) Try.isAgg22 rfl (blk_cellL (hS22.gblk hb2) rfl) ?_)
  refine st (ov_len (n := L.length) Try.underlying22 rfl hl3.sl ?_)
  refine st (ov_lss (k := .i64) (a := ((k : Nat) : Int)) (b := ((L.length : Nat) : Int)) rfl rfl ?_)
  refine st_nil ?_
  cases hc23 : decide (((k : Nat) : Int) < ((L.length : Nat) : Int))
  ·skip
   have hc23r := hc23
   have hc23 := of_decide_eq_false hc23
   refine WP_cond_f rfl ?_
   refine WP_exit ?_
   refine blk_exit ?_
   refine WP_seq ?_
   have hlk9 : laidL n (L.take k) = L := by rw [laid_prefix hG k (by omega), show k = L.length by omega, List.take_length]
   rw [hlk9] at hS22
   have hS24 : Sep G W ((RefS b16 n L) :: (RBufO b most (B.filter (fun x => !hadE L x))) :: Rs) w19 := hS22
   refine WP_region0 (by kernel_rfl) (fun _ => ?_)
   refine st (ov_assign (v := (.slice none 0 0)) rfl ?_)
   refine st_nil ?_
   refine WP_seq ?_
   refine WP_seq ?_
   refine WP_region0 (by kernel_rfl) (fun _ => ?_)
   refine st (ov_move (v := .pointer (some ⟨b, 0, none⟩)) rfl ?_)
   refine st (ov_move (v := .pointer (some ⟨b16, 0, none⟩)) rfl ?_)
   have hS25 : Sep G W ((RBufO b most (B.filter (fun x => !hadE L x))) :: (RefS b16 n L) :: Rs) w19 := hS24.sel 2 [1, 0] (Nat.le_add_left _ _) rfl rfl
   obtain ⟨G26, hA28, hB29, hS30, hk31⟩ := hS25.lend
   obtain ⟨vl32, hb33, hl34⟩ := RBufO.sh hA28
   have hsm35 : (B.filter (fun x => !hadE L x)).length * 96 ≤ 140737488355328 := hl34.small
   refine st (ov_call (f := 60) (vals := [.pointer (some ⟨b, 0, none⟩), .pointer (some ⟨b16, 0, none⟩)]) (cap := []) (show _ = (.func (.func 60) #[] #[] : Value) from rfl) rfl Try.call60 (D_first  hA28 hS30 (by first | omega | (simp only [lens]; omega)) (by first | exact hG | exact hI9.r.good.addL) (hn9) (by omega)) ?_)
   rintro _ w39 ⟨c36, rfl, hcI37, hcF38, hS40⟩
   have hS41 : Sep G W ((RBufO b most (B.filter (fun x => !hadE L x))) :: (RefS b16 n L) :: Rs) w39 := hk31 _ _ hS40
   refine st (ov_assign (v := .int .i64 (c36)) rfl ?_)
   refine st_nil ?_
   refine WP_block ?_
   have hS42 : Sep G W ((RowE (α := Ev) own 36 (.slice none 0 0) ([] : List Ev)) :: (RBufO b most (B.filter (fun x => !hadE L x))) :: (RefS b16 n L) :: Rs) w39 := hS41.rowNil own 36
   have hsl9 : ((sortE B).filter (fun x => !hadE L x)).length ≤ B.length := by have h8 := List.length_filter_le (fun x => !hadE L x) (sortE B); have h9 := (sortE_perm (l := B)).length_eq; omega
   have hS43 : Sep G W ((RBufO b most (B.filter (fun x => !hadE L x))) :: (RefS b16 n L) :: (RowE (α := Ev) own 36 (.slice none 0 0) ([] : List Ev)) :: Rs) w39 := hS42.sel 3 [1, 2, 0] (Nat.le_add_left _ _) rfl rfl
   refine WP_loop (fun mq σ wq => ∃ (O9 : List Ev) (T9 : List Ev) (B9 : List Ev) (c9 : Int) (vo : Value) (ρ : Env), mq = B9.length ∧ σ = setAll ρ [(0, .pointer (some ⟨b, 0, none⟩)), (8, .pointer (some ⟨b16, 0, none⟩)), (10, vo), (11, .int .i64 (c9))] ∧ (InR c9) ∧ (FirstL n T9 B9 B9.length c9) ∧ (RrI n L ((sortE B).filter (fun x => !hadE L x)) O9 T9 B9) ∧ Sep G W ((RBufO b most B9) :: (RefS b16 n T9) :: (RowE (α := Ev) own 36 vo O9) :: Rs) wq) ⟨[], L, (B.filter (fun x => !hadE L x)), c36, (.slice none 0 0), _, rfl, setAll_self ⟨rfl, rfl, rfl, rfl, trivial⟩, hcI37, hcF38, (RrI.start hG hids hLB), hS43⟩ ?_
   rintro m45 σ46 w44 ⟨O9, T9, B9, c9, vo, ρl3, rfl, rfl, hc99, hF9, hI9, hS47⟩
   have hr48 := hS47.row (i := 2) rfl
   have hr48s : O9.length * 96 ≤ 140737488355328 := hr48.2
   have hbd9 := hI9.bd
   refine WP_seq ?_
   refine WP_seq ?_
   refine WP_region0 (by kernel_rfl) (fun _ => ?_)
   refine st (ov_move (v := .int .i64 (c9)) rfl ?_)
   refine st (ov_geq (k := .i64) (a := c9) (b := 0) rfl rfl ?_)
   refine st_nil ?_
   cases hc49 : decide (0 ≤ c9)
   ·skip
    have hc49r := hc49
    have hc49 := of_decide_eq_false hc49
    obtain ⟨hO8, hids8, hB8⟩ := hI9.fin hF9 (by omega)
    refine WP_cond_f rfl ?_
    refine WP_exit ?_
    refine blk_exit ?_
    refine WP_seq ?_
    rw [hO8] at hS47
    have hS50 : Sep G W ((RBufO b most B9) :: (RefS b16 n T9) :: (RowE (α := Ev) own 36 vo (rdyO n L ((sortE B).filter (fun x => !hadE L x)))) :: Rs) w44 := hS47
    have hr51 := hS50.row (i := 2) rfl
    have hr51s : (rdyO n L ((sortE B).filter (fun x => !hadE L x))).length * 96 ≤ 140737488355328 := hr51.2
    refine WP_region0 (by kernel_rfl) (fun _ => ?_)
    refine st (ov_move (v := vo) rfl ?_)
    refine st (ov_assign (v := vo) rfl ?_)
    refine st_nil ?_
    refine WP_ret ?_
    refine fin1 Try.results28 (show _ = (vo : Value) from rfl) ?_
    have hS52 : Sep G W ((RowE (α := Ev) own 36 vo (rdyO n L ((sortE B).filter (fun x => !hadE L x)))) :: (RBufO b most B9) :: Rs) w44 := hS50.sel 3 [2, 0] (Nat.le_add_left _ _) rfl rfl
    refine ⟨vo, B9, ?_, ?_, ?_, hS52⟩
    · rfl
    · exact hids8
    · exact hB8
   ·skip
    have hc49r := hc49
    have hc49 := of_decide_eq_true hc49
    obtain ⟨q9, hcq9⟩ : ∃ q : Nat, c9 = (q : Int) := ⟨c9.toNat, by omega⟩
    subst hcq9
    obtain ⟨hq9, hcan9, hst9⟩ := hI9.step hF9
    have hal9 := addL_len (n := n) (L := T9) (e := B9.getD q9 default)
    refine WP_cond_t rfl ?_
    refine WP_skip ?_
    refine WP_seq ?_
    refine WP_block ?_
    refine WP_seq ?_
    obtain ⟨vl53, hS54⟩ := RBufO.open hS47
    have hS54t : Sep G W ((Blk b #[.int .i64 (most), vl53] 76) :: (EvW vl53 36 3 B9) :: (RefS b16 n T9) :: (RowE (α := Ev) own 36 vo O9) :: Rs) w44 := hS54
    have hes55 : B9.length * 96 ≤ 140737488355328 := (hS54t.evwSl (i := 1) rfl).2
    have hS56 : Sep G W ((EvW vl53 36 3 B9) :: (Blk b #[.int .i64 (most), vl53] 76) :: (RefS b16 n T9) :: (RowE (α := Ev) own 36 vo O9) :: Rs) w44 := hS54t.sel 4 [1, 0, 2, 3] (Nat.le_add_left _ _) rfl rfl
    obtain ⟨G57, hA59, hB60, hS61, hk62⟩ := hS56.lend
    have hrd63 := EvW.rd hA59
    have hrd63s : B9.length * 96 ≤ 140737488355328 := hrd63.small
    refine WP_region0 (by kernel_rfl) (fun _ => ?_)
    refine st (ov_move (v := vo) rfl ?_)
    refine st (ov_move (v := .pointer (some ⟨b, 0, none⟩)) rfl ?_)
    refine st (ov_nilCheck (b := b) (o := 0) rfl ?_)
    refine st (fd76_1 rfl ?_)
    refine st (ov_load1 (v := vl53) Try.isAgg22 rfl (blk_cellL (hS61.blk (i := 0) rfl) rfl) ?_)
    refine st (ov_move (v := .int .i64 ((q9 : Nat) : Int)) rfl ?_)
    have hi64 : q9 < B9.length := (by first | omega | (simp only [lens]; omega))
    refine st (ov_indexAddrN (k := 10) (i := q9) Try.underlying22 Try.sizeOf36 rfl hrd63.sl rfl hi64 ?_)
    have hi66 : q9 < B9.length := (by first | omega | (simp only [lens]; omega))
    obtain ⟨hce65, hde65_0, hoke65⟩ := hrd63.ev hi66
    rw [← getD_at default hi66] at hce65 hde65_0 hoke65
    have hsm67 : ((B9.getD q9 default).deps).length * 8 ≤ 140737488355328 := hde65_0.small
    have hcw68 := hS61.cells hce65 (hrd63.foot (ne_of_lt hi66))
    refine st (ov_loadk (k := 10) Try.isAgg36 Try.sizeOf36 rfl rfl hcw68 ?_)
    refine st (ov_call (f := 23) (vals := [.agg ((B9.getD q9 default).cells (cellV w44 (sb vl53) (so vl53 + q9 * 10 + 3))).toArray]) (cap := []) (show _ = (.func (.func 23) #[] #[] : Value) from rfl) rfl Try.call23 (D_copyEvent (e := (B9.getD q9 default)) hde65_0 hoke65 hS61) ?_)
    rintro _ w70 ⟨v69, rfl, hS71⟩
    have hr72 := hS71.row (i := 0) rfl
    have hr72s : ((B9.getD q9 default).deps).length * 8 ≤ 140737488355328 := hr72.2
    refine st (ov_buildSlice (k := 10) (parts' := [(0, .agg ((B9.getD q9 default).cells v69).toArray)]) (c := ((B9.getD q9 default).cells v69).toArray) Try.underlying22 Try.sizeOf36 Try.zeroValue36 (by decide) rfl (by kernel_rfl) ?_)
    intro w75 b74 hn73
    have hS76 : Sep G57 w44 ((Blk b74 ((B9.getD q9 default).cells v69).toArray 36) :: (RowE (α := Int) own 3 v69 ((B9.getD q9 default).deps)) :: (Blk b #[.int .i64 (most), vl53] 76) :: (RefS b16 n T9) :: (RowE (α := Ev) own 36 vo O9) :: Rs) w75 := hS71.new hn73
    have hbk80 := hS76.blk (i := 0) rfl
    have hS81 : Sep G57 w44 ((RowE (α := Ev) own 36 vo O9) :: (RowE (α := Int) own 3 v69 ((B9.getD q9 default).deps)) :: (Blk b #[.int .i64 (most), vl53] 76) :: (RefS b16 n T9) :: Rs) w75 := hS76.sel 5 [4, 1, 2, 3] (Nat.le_add_left _ _) rfl rfl
    refine st (ov_append1S (src := own) (bytes := 96) (x1 := (B9.getD q9 default)) hS81 el22 rfl rfl hbk80 (fun _ _ hN => ⟨_, rfl, RowE.soft hN, hoke65⟩) (by first | omega | (simp only [List.length_append, List.length_cons, List.length_nil, List.length_take, List.length_drop]; omega)) rfl ?_)
    intro v78 w77 hS79
    have hr82 := hS79.row (i := 0) rfl
    have hr82s : (O9 ++ [(B9.getD q9 default)]).length * 96 ≤ 140737488355328 := hr82.2
    refine st (ov_assign (v := v78) rfl ?_)
    refine st_nil ?_
    refine WP_seq ?_
    refine WP_region0 (by kernel_rfl) (fun _ => ?_)
    refine st (ov_move (v := .pointer (some ⟨b16, 0, none⟩)) rfl ?_)
    refine st (ov_move (v := .pointer (some ⟨b, 0, none⟩)) rfl ?_)
    refine st (ov_nilCheck (b := b) (o := 0) rfl ?_)
    refine st (fd76_1 rfl ?_)
    refine st (ov_load1 (v := vl53) Try.isAgg22 rfl (blk_cellL (hS79.blk (i := 1) rfl) rfl) ?_)
    refine st (ov_move (v := .int .i64 ((q9 : Nat) : Int)) rfl ?_)
    have hi83 : q9 < B9.length := (by first | omega | (simp only [lens]; omega))
    refine st (ov_indexAddrN (k := 10) (i := q9) Try.underlying22 Try.sizeOf36 rfl hrd63.sl rfl hi83 ?_)
    have hcw85 := hS79.cells hce65 (hrd63.foot (ne_of_lt hi66))
    refine st (ov_loadk (k := 10) Try.isAgg36 Try.sizeOf36 rfl rfl hcw85 ?_)
    have hS86 : Sep G57 w44 ((RefS b16 n T9) :: (RowE (α := Ev) own 36 v78 (O9 ++ [(B9.getD q9 default)])) :: (Blk b #[.int .i64 (most), vl53] 76) :: Rs) w77 := hS79.sel 3 [2, 0, 1] (Nat.le_add_left _ _) rfl rfl
    refine st (ov_call (f := 22) (vals := [.pointer (some ⟨b16, 0, none⟩), .agg ((B9.getD q9 default).cells (cellV w44 (sb vl53) (so vl53 + q9 * 10 + 3))).toArray]) (cap := []) (show _ = (.func (.func 22) #[] #[] : Value) from rfl) rfl Try.call22 (D_rAddL (e := (B9.getD q9 default)) hde65_0 hoke65 hS86 (by first | exact laidL_good | exact hI9.r.good) (hn9) (by first | omega | exact Nat.le_trans laid_take (by omega))) ?_)
    rintro _ w87 ⟨rfl, hS88⟩
    refine st_nil ?_
    have hS89 : Sep G W ((EvW vl53 36 3 B9) :: (RefS b16 n (addL n T9 (B9.getD q9 default))) :: (RowE (α := Ev) own 36 v78 (O9 ++ [(B9.getD q9 default)])) :: (Blk b #[.int .i64 (most), vl53] 76) :: Rs) w87 := hk62 _ _ hS88
    have hS90 : Sep G W ((Blk b #[.int .i64 (most), vl53] 76) :: (EvW vl53 36 3 B9) :: (RefS b16 n (addL n T9 (B9.getD q9 default))) :: (RowE (α := Ev) own 36 v78 (O9 ++ [(B9.getD q9 default)])) :: Rs) w87 := hS89.sel 4 [3, 0, 1, 2] (Nat.le_add_left _ _) rfl rfl
    have hS91 : Sep G W ((RBufO b most B9) :: (RefS b16 n (addL n T9 (B9.getD q9 default))) :: (RowE (α := Ev) own 36 v78 (O9 ++ [(B9.getD q9 default)])) :: Rs) w87 := RBufO.close (most := most) (B := B9) hS90
    refine WP_region0 (by kernel_rfl) (fun _ => ?_)
    refine st (ov_move (v := .pointer (some ⟨b, 0, none⟩)) rfl ?_)
    refine st (ov_move (v := .int .i64 ((q9 : Nat) : Int)) rfl ?_)
    refine st (ov_call (f := 59) (vals := [.pointer (some ⟨b, 0, none⟩), .int .i64 ((q9 : Nat) : Int)]) (cap := []) (show _ = (.func (.func 59) #[] #[] : Value) from rfl) rfl Try.call59 (D_drop (i := q9) (by first | omega | (refine ⟨?_, ?_⟩ <;> omega)) hS91 (by first | omega | (simp only [lens]; omega))) ?_)
    rintro _ w92 ⟨rfl, hS93⟩
    refine st_nil ?_
    refine WP_region0 (by kernel_rfl) (fun _ => ?_)
    refine st (ov_move (v := .pointer (some ⟨b, 0, none⟩)) rfl ?_)
    refine st (ov_move (v := .pointer (some ⟨b16, 0, none⟩)) rfl ?_)
    obtain ⟨G94, hA96, hB97, hS98, hk99⟩ := hS93.lend
    obtain ⟨vl100, hb101, hl102⟩ := RBufO.sh hA96
    have hsm103 : (B9.eraseIdx q9).length * 96 ≤ 140737488355328 := hl102.small
    refine st (ov_call (f := 60) (vals := [.pointer (some ⟨b, 0, none⟩), .pointer (some ⟨b16, 0, none⟩)]) (cap := []) (show _ = (.func (.func 60) #[] #[] : Value) from rfl) rfl Try.call60 (D_first  hA96 hS98 (by first | omega | (simp only [lens]; omega)) (by first | exact hG | exact hI9.r.good.addL) (hn9) (by omega)) ?_)
    rintro _ w107 ⟨c104, rfl, hcI105, hcF106, hS108⟩
    have hS109 : Sep G W ((RBufO b most (B9.eraseIdx q9)) :: (RefS b16 n (addL n T9 (B9.getD q9 default))) :: (RowE (α := Ev) own 36 v78 (O9 ++ [(B9.getD q9 default)])) :: Rs) w107 := hk99 _ _ hS108
    refine st (ov_assign (v := .int .i64 (c104)) rfl ?_)
    refine st_nil ?_
    exact ⟨_, (by rw [List.length_eraseIdx_of_lt hq9]; omega), _, _, _, c104, v78, _, rfl, setAll_self ⟨rfl, rfl, rfl, rfl, trivial⟩, hcI105, hcF106, hst9, hS109⟩
  ·skip
   have hc23r := hc23
   have hc23 := of_decide_eq_true hc23
   refine WP_cond_t rfl ?_
   refine WP_skip ?_
   refine WP_seq ?_
   refine WP_block ?_
   refine WP_region0 (by kernel_rfl) (fun _ => ?_)
   refine st (ov_move (v := .pointer (some ⟨b16, 0, none⟩)) rfl ?_)
   refine st (ov_move (v := .pointer (some ⟨s, 0, none⟩)) rfl ?_)
   refine st (ov_nilCheck (b := s) (o := 0) rfl ?_)
   refine st (fd78_1 rfl ?_)
   refine st (ov_load1 (v := vl1) Try.isAgg22 rfl (blk_cellL (hS22.gblk hb2) rfl) ?_)
   refine st (ov_move (v := .int .i64 ((k : Nat) : Int)) rfl ?_)
   have hi110 : k < L.length := (by first | omega | (simp only [lens]; omega))
   refine st (ov_indexAddrN (k := 10) (i := k) Try.underlying22 Try.sizeOf36 rfl hl3.sl rfl hi110 ?_)
   have hi112 : k < L.length := (by first | omega | (simp only [lens]; omega))
   obtain ⟨hce111, hde111_0, hoke111⟩ := hl3.ev hi112
   rw [← getD_at default hi112] at hce111 hde111_0 hoke111
   have hsm113 : ((L.getD k default).deps).length * 8 ≤ 140737488355328 := hde111_0.small
   have hcw114 := hS22.cells hce111 (hl3.foot (ne_of_lt hi112))
   refine st (ov_loadk (k := 10) Try.isAgg36 Try.sizeOf36 rfl rfl hcw114 ?_)
   refine st (ov_call (f := 22) (vals := [.pointer (some ⟨b16, 0, none⟩), .agg ((L.getD k default).cells (cellV W (sb vl1) (so vl1 + k * 10 + 3))).toArray]) (cap := []) (show _ = (.func (.func 22) #[] #[] : Value) from rfl) rfl Try.call22 (D_rAddL (e := (L.getD k default)) hde111_0 hoke111 hS22 (by first | exact laidL_good | exact hI9.r.good) (hn9) (by first | omega | exact Nat.le_trans laid_take (by omega))) ?_)
   rintro _ w115 ⟨rfl, hS116⟩
   refine st_nil ?_
   refine WP_region0 (by kernel_rfl) (fun _ => ?_)
   refine st (ov_move (v := .int .i64 ((k : Nat) : Int)) rfl ?_)
   have hr117 : InR ((k + 1 : Nat) : Int) := by first | omega | (simp only [lens]; omega)
   refine st (ov_add (r := ((k + 1 : Nat) : Int)) (k := .i64) (a := ((k : Nat) : Int)) (b := 1) rfl rfl (by rw [show (((k : Nat) : Int) + 1 : Int) = ((k + 1 : Nat) : Int) by first | omega | (simp only [lens]; omega)]; exact wrap_in hr117) ?_)
   refine st (ov_assign (v := .int .i64 ((k + 1 : Nat) : Int)) rfl ?_)
   refine st_nil ?_
   have hL118 : (laidL n (L.take (k + 1))) = (addL n (laidL n (L.take k)) (L.getD k default)) := (laid_step (by omega)).symm
   rw [← hL118] at hS116
   exact ⟨_, by omega, k + 1, _, rfl, setAll_self ⟨rfl, rfl, rfl, rfl, trivial⟩, by omega, hS116⟩
 ·skip
  have hc14r := hc14
  have hc14 := of_decide_eq_true hc14
  obtain ⟨j, rfl⟩ : ∃ j, k = j + 1 := ⟨k - 1, by omega⟩
  obtain ⟨hcl9, hca9⟩ := cur_at (p := hadE L) (B := B) (j := j) (by omega)
  have hcm9 := cur_len (p := hadE L) (B := B) (j := j + 1)
  refine WP_cond_t rfl ?_
  refine WP_skip ?_
  refine WP_seq ?_
  refine WP_block ?_
  refine WP_seq ?_
  obtain ⟨vl119, hS120⟩ := RBufO.open hS13
  have hS120t : Sep G W ((Blk b #[.int .i64 (most), vl119] 76) :: (EvW vl119 36 3 (curF (hadE L) B (j + 1))) :: Rs) w10 := hS120
  have hes121 : (curF (hadE L) B (j + 1)).length * 96 ≤ 140737488355328 := (hS120t.evwSl (i := 1) rfl).2
  have hS122 : Sep G W ((EvW vl119 36 3 (curF (hadE L) B (j + 1))) :: (Blk b #[.int .i64 (most), vl119] 76) :: Rs) w10 := hS120t.sel 2 [1, 0] (Nat.le_add_left _ _) rfl rfl
  obtain ⟨G123, hA125, hB126, hS127, hk128⟩ := hS122.lend
  have hrd129 := EvW.rd hA125
  have hrd129s : (curF (hadE L) B (j + 1)).length * 96 ≤ 140737488355328 := hrd129.small
  refine WP_region0 (by kernel_rfl) (fun _ => ?_)
  refine st (ov_move (v := .pointer (some ⟨s, 0, none⟩)) rfl ?_)
  refine st (ov_move (v := .pointer (some ⟨b, 0, none⟩)) rfl ?_)
  refine st (ov_nilCheck (b := b) (o := 0) rfl ?_)
  refine st (fd76_1 rfl ?_)
  refine st (ov_load1 (v := vl119) Try.isAgg22 rfl (blk_cellL (hS127.blk (i := 0) rfl) rfl) ?_)
  refine st (ov_move (v := .int .i64 ((j : Nat) : Int)) (show _ = (.int .i64 ((j : Nat) : Int) : Value) from (congrArg (Value.int .i64) (show (((j + 1 : Nat) : Int) - 1) = ((j : Nat) : Int) by omega))) ?_)
  have hi130 : j < (curF (hadE L) B (j + 1)).length := (by first | omega | (simp only [lens]; omega))
  refine st (ov_indexAddrN (k := 10) (i := j) Try.underlying22 Try.sizeOf36 rfl hrd129.sl rfl hi130 ?_)
  refine st (fd36_0 rfl ?_)
  have hi132 : j < (curF (hadE L) B (j + 1)).length := (by first | omega | (simp only [lens]; omega))
  obtain ⟨hce131, hde131_0, hoke131⟩ := hrd129.ev hi132
  rw [← getD_at default hi132] at hce131 hde131_0 hoke131
  have hsm133 : (((curF (hadE L) B (j + 1)).getD j default).deps).length * 8 ≤ 140737488355328 := hde131_0.small
  have hcw134 := hS127.cells hce131 (hrd129.foot (ne_of_lt hi132))
  refine st (ov_loadk (k := 2) (cs := [.int .i64 (((curF (hadE L) B (j + 1)).getD j default).origin), .int .i64 (((curF (hadE L) B (j + 1)).getD j default).seq)]) Try.isAgg33 Try.sizeOf33 rfl rfl (CellsAt.sub hcw134 0 (cs2 := [.int .i64 (((curF (hadE L) B (j + 1)).getD j default).origin), .int .i64 (((curF (hadE L) B (j + 1)).getD j default).seq)]) rfl) ?_)
  refine st (ov_call (f := 53) (vals := [.pointer (some ⟨s, 0, none⟩), .agg #[.int .i64 (((curF (hadE L) B (j + 1)).getD j default).origin), .int .i64 (((curF (hadE L) B (j + 1)).getD j default).seq)]]) (cap := []) (show _ = (.func (.func 53) #[] #[] : Value) from rfl) rfl Try.call53 (D_rGet  (HP.base hs hB126) hoke131.origin hoke131.seq hS127) ?_)
  rintro _ w137 ⟨v135, rfl, hgo136, hS138⟩
  have hr139 := hS138.row (i := 0) rfl
  have hr139s : (((getE L ((((curF (hadE L) B (j + 1)).getD j default).origin), (((curF (hadE L) B (j + 1)).getD j default).seq))).getD default).deps).length * 8 ≤ 140737488355328 := hr139.2
  refine st (ov_move (v := .tuple #[.agg (((getE L ((((curF (hadE L) B (j + 1)).getD j default).origin), (((curF (hadE L) B (j + 1)).getD j default).seq))).getD default).cells v135).toArray, .bool (getE L ((((curF (hadE L) B (j + 1)).getD j default).origin), (((curF (hadE L) B (j + 1)).getD j default).seq))).isSome]) rfl ?_)
  refine st (ov_extract (vs := [.agg (((getE L ((((curF (hadE L) B (j + 1)).getD j default).origin), (((curF (hadE L) B (j + 1)).getD j default).seq))).getD default).cells v135).toArray, .bool ((getE L ((((curF (hadE L) B (j + 1)).getD j default).origin), (((curF (hadE L) B (j + 1)).getD j default).seq))).isSome)]) (i := 0) (v := .agg (((getE L ((((curF (hadE L) B (j + 1)).getD j default).origin), (((curF (hadE L) B (j + 1)).getD j default).seq))).getD default).cells v135).toArray) rfl rfl ?_)
  refine st (ov_extract (vs := [.agg (((getE L ((((curF (hadE L) B (j + 1)).getD j default).origin), (((curF (hadE L) B (j + 1)).getD j default).seq))).getD default).cells v135).toArray, .bool ((getE L ((((curF (hadE L) B (j + 1)).getD j default).origin), (((curF (hadE L) B (j + 1)).getD j default).seq))).isSome)]) (i := 1) (v := .bool ((getE L ((((curF (hadE L) B (j + 1)).getD j default).origin), (((curF (hadE L) B (j + 1)).getD j default).seq))).isSome)) rfl rfl ?_)
  refine st (ov_alloc Try.zeroValue36 ?_)
  intro w142 b141 hn140
  have hS143 : Sep G123 w10 ((Blk b141 #[.int .i64 (0), .int .i64 (0), .int .i64 (0), (.slice none 0 0), .int .i64 (0), .int .i64 (0), .int .i64 (0), .int .i64 (0), .int .i64 (0), .int .i64 (0)] 36) :: (RowE (α := Int) own 3 v135 (((getE L ((((curF (hadE L) B (j + 1)).getD j default).origin), (((curF (hadE L) B (j + 1)).getD j default).seq))).getD default).deps)) :: (Blk b #[.int .i64 (most), vl119] 76) :: Rs) w142 := hS138.new hn140
  refine stn (ov_store (v := .agg (((getE L ((((curF (hadE L) B (j + 1)).getD j default).origin), (((curF (hadE L) B (j + 1)).getD j default).seq))).getD default).cells v135).toArray) (c' := (((getE L ((((curF (hadE L) B (j + 1)).getD j default).origin), (((curF (hadE L) B (j + 1)).getD j default).seq))).getD default).cells v135).toArray) Try.sizeOf36 rfl rfl (hS143.blk (i := 0) rfl) (all1 ⟨rfl, rfl, rfl, hr139.1.one, rfl, rfl, rfl, rfl, rfl, rfl, trivial⟩) (Nat.le_of_ble_eq_true rfl) rfl ?_)
  intro w144 hp145
  have hS146 : Sep G123 w10 ((Blk b141 (((getE L ((((curF (hadE L) B (j + 1)).getD j default).origin), (((curF (hadE L) B (j + 1)).getD j default).seq))).getD default).cells v135).toArray 36) :: (RowE (α := Int) own 3 v135 (((getE L ((((curF (hadE L) B (j + 1)).getD j default).origin), (((curF (hadE L) B (j + 1)).getD j default).seq))).getD default).deps)) :: (Blk b #[.int .i64 (most), vl119] 76) :: Rs) w144 := hS143.put (i := 0) rfl hp145
  refine st (ov_assign (v := .bool ((getE L ((((curF (hadE L) B (j + 1)).getD j default).origin), (((curF (hadE L) B (j + 1)).getD j default).seq))).isSome)) rfl ?_)
  refine st_nil ?_
  refine WP_seq ?_
  have hS147 : Sep G W ((EvW vl119 36 3 (curF (hadE L) B (j + 1))) :: (Blk b141 (((getE L ((((curF (hadE L) B (j + 1)).getD j default).origin), (((curF (hadE L) B (j + 1)).getD j default).seq))).getD default).cells v135).toArray 36) :: (RowE (α := Int) own 3 v135 (((getE L ((((curF (hadE L) B (j + 1)).getD j default).origin), (((curF (hadE L) B (j + 1)).getD j default).seq))).getD default).deps)) :: (Blk b #[.int .i64 (most), vl119] 76) :: Rs) w144 := hk128 _ _ hS146
  have hS148 : Sep G W ((Blk b #[.int .i64 (most), vl119] 76) :: (EvW vl119 36 3 (curF (hadE L) B (j + 1))) :: (Blk b141 (((getE L ((((curF (hadE L) B (j + 1)).getD j default).origin), (((curF (hadE L) B (j + 1)).getD j default).seq))).getD default).cells v135).toArray 36) :: (RowE (α := Int) own 3 v135 (((getE L ((((curF (hadE L) B (j + 1)).getD j default).origin), (((curF (hadE L) B (j + 1)).getD j default).seq))).getD default).deps)) :: Rs) w144 := hS147.sel 4 [3, 0, 1, 2] (Nat.le_add_left _ _) rfl rfl
  have hS149 : Sep G W ((RBufO b most (curF (hadE L) B (j + 1))) :: (Blk b141 (((getE L ((((curF (hadE L) B (j + 1)).getD j default).origin), (((curF (hadE L) B (j + 1)).getD j default).seq))).getD default).cells v135).toArray 36) :: (RowE (α := Int) own 3 v135 (((getE L ((((curF (hadE L) B (j + 1)).getD j default).origin), (((curF (hadE L) B (j + 1)).getD j default).seq))).getD default).deps)) :: Rs) w144 := RBufO.close (most := most) (B := (curF (hadE L) B (j + 1))) hS148
  refine WP_region0 (by kernel_rfl) (fun _ => ?_)
  refine st (ov_move (v := .bool ((getE L ((((curF (hadE L) B (j + 1)).getD j default).origin), (((curF (hadE L) B (j + 1)).getD j default).seq))).isSome)) rfl ?_)
  refine st_nil ?_
  cases hc150 : (getE L ((((curF (hadE L) B (j + 1)).getD j default).origin), (((curF (hadE L) B (j + 1)).getD j default).seq))).isSome
  ·skip
   have hc150r := hc150
   refine WP_cond_f rfl ?_
   refine WP_skip ?_
   have hS151 : Sep G W ((RBufO b most (curF (hadE L) B (j + 1))) :: Rs) w144 := hS149.sel 3 [0] (Nat.le_add_left _ _) rfl rfl
   rw [cur_keep (by omega) (by rw [← hca9]; exact hc150)] at hS151
   have hS152 : Sep G W ((RBufO b most (curF (hadE L) B j)) :: Rs) w144 := hS151
   refine WP_region0 (by kernel_rfl) (fun _ => ?_)
   refine st (ov_move (v := .int .i64 ((j : Nat) : Int)) (show _ = (.int .i64 ((j : Nat) : Int) : Value) from (congrArg (Value.int .i64) (show (((j + 1 : Nat) : Int) - 1) = ((j : Nat) : Int) by omega))) ?_)
   have hr153 : InR (((j : Nat) : Int) - 1) := by omega
   refine st (ov_sub (r := ((j : Nat) : Int) - 1) (k := .i64) (a := ((j : Nat) : Int)) (b := 1) rfl rfl (wrap_in hr153) ?_)
   refine st (ov_assign (v := .int .i64 (((j : Nat) : Int) - 1)) rfl ?_)
   refine st_nil ?_
   exact ⟨_, by omega, j, _, rfl, setAll_self ⟨rfl, rfl, rfl, trivial⟩, by omega, hS152⟩
  ·skip
   have hc150r := hc150
   refine WP_cond_t rfl ?_
   refine WP_region0 (by kernel_rfl) (fun _ => ?_)
   refine st (ov_move (v := .pointer (some ⟨b, 0, none⟩)) rfl ?_)
   refine st (ov_move (v := .int .i64 ((j : Nat) : Int)) (show _ = (.int .i64 ((j : Nat) : Int) : Value) from (congrArg (Value.int .i64) (show (((j + 1 : Nat) : Int) - 1) = ((j : Nat) : Int) by omega))) ?_)
   refine st (ov_call (f := 59) (vals := [.pointer (some ⟨b, 0, none⟩), .int .i64 ((j : Nat) : Int)]) (cap := []) (show _ = (.func (.func 59) #[] #[] : Value) from rfl) rfl Try.call59 (D_drop (i := j) (by first | omega | (refine ⟨?_, ?_⟩ <;> omega)) hS149 (by first | omega | (simp only [lens]; omega))) ?_)
   rintro _ w154 ⟨rfl, hS155⟩
   refine st_nil ?_
   have hS156 : Sep G W ((RBufO b most ((curF (hadE L) B (j + 1)).eraseIdx j)) :: Rs) w154 := hS155.sel 3 [0] (Nat.le_add_left _ _) rfl rfl
   rw [cur_drop (by omega) (by rw [← hca9]; exact hc150)] at hS156
   have hS157 : Sep G W ((RBufO b most (curF (hadE L) B j)) :: Rs) w154 := hS156
   refine WP_region0 (by kernel_rfl) (fun _ => ?_)
   refine st (ov_move (v := .int .i64 ((j : Nat) : Int)) (show _ = (.int .i64 ((j : Nat) : Int) : Value) from (congrArg (Value.int .i64) (show (((j + 1 : Nat) : Int) - 1) = ((j : Nat) : Int) by omega))) ?_)
   have hr158 : InR (((j : Nat) : Int) - 1) := by omega
   refine st (ov_sub (r := ((j : Nat) : Int) - 1) (k := .i64) (a := ((j : Nat) : Int)) (b := 1) rfl rfl (wrap_in hr158) ?_)
   refine st (ov_assign (v := .int .i64 (((j : Nat) : Int) - 1)) rfl ?_)
   refine st_nil ?_
   exact ⟨_, by omega, j, _, rfl, setAll_self ⟨rfl, rfl, rfl, trivial⟩, by omega, hS157⟩

end Go.Proofs.Ytmiihhbeclhaoaa
end

section
/- Steps of the proofs of this seat: part E1. -/
set_option linter.unusedSimpArgs false
set_option linter.unusedVariables false
set_option maxRecDepth 8000
set_option maxHeartbeats 4000000
namespace Go.Proofs.Ytmiihhbeclhaoaa
open Go.Proofs Go.RowKit

def evO : Ev := ⟨0, 1, 1, [0, 0], 0, 0, 0, 1, 1, 0⟩
def evT : Ev := ⟨1, 1, 2, [1, 0], 0, 0, 0, 1, 1, 0⟩
theorem evO_ok : evO.Ok := by constructor <;> decide
theorem evT_ok : evT.Ok := by constructor <;> decide
theorem kb1 : bAddL (max 0 (min 5 256)) [] evT = [evT] := by decide +kernel
theorem kb2 : bAddL (max 0 (min 5 256)) [evT] evT = [evT] := by decide +kernel
theorem kb3 : rdyO 2 [] ([evT].filter fun x => !hadE [] x) = [] := by decide +kernel
theorem kb4 : rdyB 2 [] ([evT].filter fun x => !hadE [] x) = [evT] := by decide +kernel
theorem kb5 : bAddL (max 0 (min 5 256)) [evT] evO = [evO, evT] := by decide +kernel
theorem kb6 : rdyO 2 [] ([evO, evT].filter fun x => !hadE [] x) = [evO, evT] := by decide +kernel
theorem kb7 : rdyB 2 [] ([evO, evT].filter fun x => !hadE [] x) = [] := by decide +kernel
theorem srt1 {e : Ev} : Srt [e] := List.pairwise_singleton _ _
theorem D_one {G : Nat → Prop} {W w : World} {Rs : List HP}  (hS0 : Sep G W Rs w) : Ret Try.prog 34 [] w (fun r w' => ∃ (v : Value), r = (.agg (evO.cells v).toArray : Value) ∧ Sep G W ((RowE (α := Int) own 3 v evO.deps) :: Rs) w') := by
 refine Calls_of_WP (args := []) Try.func34 rfl rfl ?_
 refine WP_seq ?_
 refine WP_region0 (by kernel_rfl) (fun _ => ?_)
 refine st (ov_alloc Try.zeroValue36 ?_)
 intro w3 b2 hn1
 have hS4 : Sep G W ((Blk b2 #[.int .i64 (0), .int .i64 (0), .int .i64 (0), (.slice none 0 0), .int .i64 (0), .int .i64 (0), .int .i64 (0), .int .i64 (0), .int .i64 (0), .int .i64 (0)] 36) :: Rs) w3 := hS0.new hn1
 refine st_nil ?_
 refine WP_seq ?_
 refine WP_region0 (by kernel_rfl) (fun _ => ?_)
 refine st (ov_build (parts' := [(0, .int .i64 (0)), (1, .int .i64 (1))]) (v := .agg #[.int .i64 (0), .int .i64 (1)]) rfl (by simp [Instr.build, Instr.fill, go_sem, Ev.cells]) ?_)
 refine st (ov_buildSlice (k := 1) (parts' := [(0, .int .i64 (0)), (1, .int .i64 (0))]) (c := #[.int .i64 (0), .int .i64 (0)]) Try.underlying34 Try.sizeOf3 Try.zeroValue3 (by decide) rfl (by kernel_rfl) ?_)
 intro w7 b6 hn5
 have hS8 : Sep G W ((Blk b6 #[.int .i64 (0), .int .i64 (0)] 3) :: (Blk b2 #[.int .i64 (0), .int .i64 (0), .int .i64 (0), (.slice none 0 0), .int .i64 (0), .int .i64 (0), .int .i64 (0), .int .i64 (0), .int .i64 (0), .int .i64 (0)] 36) :: Rs) w7 := hS4.new hn5
 have hS9 : Sep G W ((RowE (α := Int) own 3 (.slice (some ⟨b6, 0, none⟩) 2 2) [0, 0]) :: (Blk b2 #[.int .i64 (0), .int .i64 (0), .int .i64 (0), (.slice none 0 0), .int .i64 (0), .int .i64 (0), .int .i64 (0), .int .i64 (0), .int .i64 (0), .int .i64 (0)] 36) :: Rs) w7 := Sep.blkRow (src := own) (l := [0, 0]) (css := [[.int .i64 (0)], [.int .i64 (0)]]) hS8 rfl ⟨fun _ _ => ⟨rfl, (by decide)⟩, fun _ _ => ⟨rfl, (by decide)⟩, trivial⟩ (by first | decide | (simp only [List.length_cons, List.length_nil]; decide))
 have hr10 := hS9.row (i := 0) rfl
 have hr10s : [0, 0].length * 8 ≤ 140737488355328 := hr10.2
 have ok11 : Ev.Ok (⟨0, 1, 1, [0, 0], 0, 0, 0, 1, 1, 0⟩ : Ev) := ⟨(show InR (0) from (by decide)), (show InR (1) from (by decide)), (show InR (1) from (by decide)), (show InR (0) from (by decide)), (show InR (0) from (by decide)), (show InR (0) from (by decide)), (show InR (1) from (by decide)), (show InR (1) from (by decide)), (show InR (0) from (by decide))⟩
 refine st (ov_build (parts' := [(0, .agg #[.int .i64 (0), .int .i64 (1)]), (1, .int .i64 (1)), (2, (.slice (some ⟨b6, 0, none⟩) 2 2)), (6, .int .i64 (1)), (7, .int .i64 (1))]) (v := .agg ((⟨0, 1, 1, [0, 0], 0, 0, 0, 1, 1, 0⟩ : Ev).cells (.slice (some ⟨b6, 0, none⟩) 2 2)).toArray) rfl (by simp [Instr.build, Instr.fill, go_sem, Ev.cells]) ?_)
 refine stn (ov_store (v := .agg ((⟨0, 1, 1, [0, 0], 0, 0, 0, 1, 1, 0⟩ : Ev).cells (.slice (some ⟨b6, 0, none⟩) 2 2)).toArray) (c' := ((⟨0, 1, 1, [0, 0], 0, 0, 0, 1, 1, 0⟩ : Ev).cells (.slice (some ⟨b6, 0, none⟩) 2 2)).toArray) Try.sizeOf36 rfl rfl (hS9.blk (i := 1) rfl) (all1 ⟨rfl, rfl, rfl, rfl, rfl, rfl, rfl, rfl, rfl, rfl, trivial⟩) (Nat.le_of_ble_eq_true rfl) rfl ?_)
 intro w12 hp13
 have hS14 : Sep G W ((RowE (α := Int) own 3 (.slice (some ⟨b6, 0, none⟩) 2 2) [0, 0]) :: (Blk b2 ((⟨0, 1, 1, [0, 0], 0, 0, 0, 1, 1, 0⟩ : Ev).cells (.slice (some ⟨b6, 0, none⟩) 2 2)).toArray 36) :: Rs) w12 := hS9.put (i := 1) rfl hp13
 refine st_nil ?_
 refine WP_ret ?_
 refine finc (b := b2) Try.results34 Try.isAgg36 Try.sizeOf36 rfl rfl (CellsAt.all (hS14.blk (i := 1) rfl)) ?_
 have hS15 : Sep G W ((RowE (α := Int) own 3 (.slice (some ⟨b6, 0, none⟩) 2 2) [0, 0]) :: Rs) w12 := hS14.sel 2 [0] (Nat.le_add_left _ _) rfl rfl
 refine ⟨(.slice (some ⟨b6, 0, none⟩) 2 2), rfl, hS15⟩

theorem D_two {G : Nat → Prop} {W w : World} {Rs : List HP}  (hS0 : Sep G W Rs w) : Ret Try.prog 33 [] w (fun r w' => ∃ (v : Value), r = (.agg (evT.cells v).toArray : Value) ∧ Sep G W ((RowE (α := Int) own 3 v evT.deps) :: Rs) w') := by
 refine Calls_of_WP (args := []) Try.func33 rfl rfl ?_
 refine WP_seq ?_
 refine WP_region0 (by kernel_rfl) (fun _ => ?_)
 refine st (ov_alloc Try.zeroValue36 ?_)
 intro w3 b2 hn1
 have hS4 : Sep G W ((Blk b2 #[.int .i64 (0), .int .i64 (0), .int .i64 (0), (.slice none 0 0), .int .i64 (0), .int .i64 (0), .int .i64 (0), .int .i64 (0), .int .i64 (0), .int .i64 (0)] 36) :: Rs) w3 := hS0.new hn1
 refine st_nil ?_
 refine WP_seq ?_
 refine WP_region0 (by kernel_rfl) (fun _ => ?_)
 refine st (ov_build (parts' := [(0, .int .i64 (1)), (1, .int .i64 (1))]) (v := .agg #[.int .i64 (1), .int .i64 (1)]) rfl (by simp [Instr.build, Instr.fill, go_sem, Ev.cells]) ?_)
 refine st (ov_buildSlice (k := 1) (parts' := [(0, .int .i64 (1)), (1, .int .i64 (0))]) (c := #[.int .i64 (1), .int .i64 (0)]) Try.underlying34 Try.sizeOf3 Try.zeroValue3 (by decide) rfl (by kernel_rfl) ?_)
 intro w7 b6 hn5
 have hS8 : Sep G W ((Blk b6 #[.int .i64 (1), .int .i64 (0)] 3) :: (Blk b2 #[.int .i64 (0), .int .i64 (0), .int .i64 (0), (.slice none 0 0), .int .i64 (0), .int .i64 (0), .int .i64 (0), .int .i64 (0), .int .i64 (0), .int .i64 (0)] 36) :: Rs) w7 := hS4.new hn5
 have hS9 : Sep G W ((RowE (α := Int) own 3 (.slice (some ⟨b6, 0, none⟩) 2 2) [1, 0]) :: (Blk b2 #[.int .i64 (0), .int .i64 (0), .int .i64 (0), (.slice none 0 0), .int .i64 (0), .int .i64 (0), .int .i64 (0), .int .i64 (0), .int .i64 (0), .int .i64 (0)] 36) :: Rs) w7 := Sep.blkRow (src := own) (l := [1, 0]) (css := [[.int .i64 (1)], [.int .i64 (0)]]) hS8 rfl ⟨fun _ _ => ⟨rfl, (by decide)⟩, fun _ _ => ⟨rfl, (by decide)⟩, trivial⟩ (by first | decide | (simp only [List.length_cons, List.length_nil]; decide))
 have hr10 := hS9.row (i := 0) rfl
 have hr10s : [1, 0].length * 8 ≤ 140737488355328 := hr10.2
 have ok11 : Ev.Ok (⟨1, 1, 2, [1, 0], 0, 0, 0, 1, 1, 0⟩ : Ev) := ⟨(show InR (1) from (by decide)), (show InR (1) from (by decide)), (show InR (2) from (by decide)), (show InR (0) from (by decide)), (show InR (0) from (by decide)), (show InR (0) from (by decide)), (show InR (1) from (by decide)), (show InR (1) from (by decide)), (show InR (0) from (by decide))⟩
 refine st (ov_build (parts' := [(0, .agg #[.int .i64 (1), .int .i64 (1)]), (1, .int .i64 (2)), (2, (.slice (some ⟨b6, 0, none⟩) 2 2)), (6, .int .i64 (1)), (7, .int .i64 (1))]) (v := .agg ((⟨1, 1, 2, [1, 0], 0, 0, 0, 1, 1, 0⟩ : Ev).cells (.slice (some ⟨b6, 0, none⟩) 2 2)).toArray) rfl (by simp [Instr.build, Instr.fill, go_sem, Ev.cells]) ?_)
 refine stn (ov_store (v := .agg ((⟨1, 1, 2, [1, 0], 0, 0, 0, 1, 1, 0⟩ : Ev).cells (.slice (some ⟨b6, 0, none⟩) 2 2)).toArray) (c' := ((⟨1, 1, 2, [1, 0], 0, 0, 0, 1, 1, 0⟩ : Ev).cells (.slice (some ⟨b6, 0, none⟩) 2 2)).toArray) Try.sizeOf36 rfl rfl (hS9.blk (i := 1) rfl) (all1 ⟨rfl, rfl, rfl, rfl, rfl, rfl, rfl, rfl, rfl, rfl, trivial⟩) (Nat.le_of_ble_eq_true rfl) rfl ?_)
 intro w12 hp13
 have hS14 : Sep G W ((RowE (α := Int) own 3 (.slice (some ⟨b6, 0, none⟩) 2 2) [1, 0]) :: (Blk b2 ((⟨1, 1, 2, [1, 0], 0, 0, 0, 1, 1, 0⟩ : Ev).cells (.slice (some ⟨b6, 0, none⟩) 2 2)).toArray 36) :: Rs) w12 := hS9.put (i := 1) rfl hp13
 refine st_nil ?_
 refine WP_ret ?_
 refine finc (b := b2) Try.results33 Try.isAgg36 Try.sizeOf36 rfl rfl (CellsAt.all (hS14.blk (i := 1) rfl)) ?_
 have hS15 : Sep G W ((RowE (α := Int) own 3 (.slice (some ⟨b6, 0, none⟩) 2 2) [1, 0]) :: Rs) w12 := hS14.sel 2 [0] (Nat.le_add_left _ _) rfl rfl
 refine ⟨(.slice (some ⟨b6, 0, none⟩) 2 2), rfl, hS15⟩

theorem D_known25 {G : Nat → Prop} {W w : World} {Rs : List HP}  (hS0 : Sep G W Rs w) : Ret Try.prog 9 [] w (fun r w' => r = (.bool true : Value) ∧ Sep G W Rs w') := by
 refine Calls_of_WP (args := []) Try.func9 rfl rfl ?_
 refine WP_seq ?_
 refine WP_region0 (by kernel_rfl) (fun _ => ?_)
 refine st (ov_assign (v := .bool false) rfl ?_)
 refine st_nil ?_
 refine WP_seq ?_
 refine WP_region0 (by kernel_rfl) (fun _ => ?_)
 refine st (ov_call (f := 12) (vals := [.int .i64 (5)]) (cap := []) (show _ = (.func (.func 12) #[] #[] : Value) from rfl) rfl Try.call12 (D_bNew (x := 5) (by decide) hS0) ?_)
 rintro _ w2 ⟨b1, rfl, hS3⟩
 refine st (ov_assign (v := .pointer (some ⟨b1, 0, none⟩)) rfl ?_)
 refine st_nil ?_
 refine WP_seq ?_
 refine WP_region0 (by kernel_rfl) (fun _ => ?_)
 refine st (ov_call (f := 11) (vals := [.int .i64 (2)]) (cap := []) (show _ = (.func (.func 11) #[] #[] : Value) from rfl) rfl Try.call11 (D_NewSet (n := 2) (by first | omega | (refine ⟨?_, ?_⟩ <;> omega)) hS3) ?_)
 rintro _ w5 ⟨b4, rfl, hS6⟩
 refine st (ov_assign (v := .pointer (some ⟨b4, 0, none⟩)) rfl ?_)
 refine st_nil ?_
 refine WP_seq ?_
 refine WP_seq ?_
 refine WP_region (by kernel_rfl) ?_
 refine st (ov_move (v := .pointer (some ⟨b1, 0, none⟩)) rfl ?_)
 refine st (ov_eqlPtr (b := b1) (o := 0) Try.underlying28 rfl ?_)
 refine st (ov_move (v := .bool false) rfl ?_)
 refine sty rfl rfl (ov_move (v := .pointer (some ⟨b4, 0, none⟩)) rfl ?_)
 refine sty rfl rfl (ov_eqlPtr (b := b4) (o := 0) Try.underlying26 rfl ?_)
 refine st (ov_pick_f (v := .bool false) rfl rfl ?_)
 refine st (ov_move (v := .bool false) rfl ?_)
 refine sty rfl rfl (ov_move (v := .pointer (some ⟨b1, 0, none⟩)) rfl ?_)
 refine sty rfl rfl (ov_call (f := 33) (vals := []) (cap := []) (show _ = (.func (.func 33) #[] #[] : Value) from rfl) rfl Try.call33 (D_two  hS6) ?_)
 rintro _ w8 ⟨v7, rfl, hS9⟩
 have hr10 := hS9.row (i := 0) rfl
 have hr10s : evT.deps.length * 8 ≤ 140737488355328 := hr10.2
 obtain ⟨G11, hA13, hB14, hS15, hk16⟩ := hS9.lend
 have hrd17 := RowE.rd hA13
 have hrd17s : evT.deps.length * 8 ≤ 140737488355328 := hrd17.small
 have hS18 : Sep G11 w8 ((BufO b1 (max 0 (min 5 256)) ([] : List Ev)) :: (SetO b4 2 ([] : List Ev)) :: Rs) w8 := hS15.sel 2 [1, 0] (Nat.le_add_left _ _) rfl rfl
 refine sty rfl rfl (ov_call (f := 14) (vals := [.pointer (some ⟨b1, 0, none⟩), .agg (evT.cells v7).toArray]) (cap := []) (show _ = (.func (.func 14) #[] #[] : Value) from rfl) rfl Try.call14 (D_bAddL (e := evT) hrd17 evT_ok hS18 (by decide) (by first | exact List.Pairwise.nil | exact srt1) (by decide)) ?_)
 rintro _ w19 ⟨rfl, hS20⟩
 have hS21 : Sep G W ((RowE (α := Int) own 3 v7 evT.deps) :: (BufO b1 (max 0 (min 5 256)) (bAddL (max 0 (min 5 256)) ([] : List Ev) evT)) :: (SetO b4 2 ([] : List Ev)) :: Rs) w19 := hk16 _ _ hS20
 rw [kb1] at hS21
 have hS22 : Sep G W ((RowE (α := Int) own 3 v7 evT.deps) :: (BufO b1 (max 0 (min 5 256)) [evT]) :: (SetO b4 2 ([] : List Ev)) :: Rs) w19 := hS21
 have hkn23 : ((bAddB (max 0 (min 5 256)) ([] : List Ev) evT)) = true := (by decide +kernel)
 rw [hkn23]
 refine sty rfl rfl (ov_not (a := true) rfl ?_)
 refine st (ov_pick_f (v := .bool false) rfl rfl ?_)
 refine st (ov_move (v := .bool false) rfl ?_)
 refine sty rfl rfl (ov_move (v := .pointer (some ⟨b1, 0, none⟩)) rfl ?_)
 refine sty rfl rfl (ov_call (f := 33) (vals := []) (cap := []) (show _ = (.func (.func 33) #[] #[] : Value) from rfl) rfl Try.call33 (D_two  hS22) ?_)
 rintro _ w25 ⟨v24, rfl, hS26⟩
 have hr27 := hS26.row (i := 0) rfl
 have hr27s : evT.deps.length * 8 ≤ 140737488355328 := hr27.2
 obtain ⟨G28, hA30, hB31, hS32, hk33⟩ := hS26.lend
 have hrd34 := RowE.rd hA30
 have hrd34s : evT.deps.length * 8 ≤ 140737488355328 := hrd34.small
 have hS35 : Sep G28 w25 ((BufO b1 (max 0 (min 5 256)) [evT]) :: (RowE (α := Int) own 3 v7 evT.deps) :: (SetO b4 2 ([] : List Ev)) :: Rs) w25 := hS32.sel 3 [1, 0, 2] (Nat.le_add_left _ _) rfl rfl
 refine sty rfl rfl (ov_call (f := 14) (vals := [.pointer (some ⟨b1, 0, none⟩), .agg (evT.cells v24).toArray]) (cap := []) (show _ = (.func (.func 14) #[] #[] : Value) from rfl) rfl Try.call14 (D_bAddL (e := evT) hrd34 evT_ok hS35 (by decide) (by first | exact List.Pairwise.nil | exact srt1) (by decide)) ?_)
 rintro _ w36 ⟨rfl, hS37⟩
 have hS38 : Sep G W ((RowE (α := Int) own 3 v24 evT.deps) :: (BufO b1 (max 0 (min 5 256)) (bAddL (max 0 (min 5 256)) [evT] evT)) :: (RowE (α := Int) own 3 v7 evT.deps) :: (SetO b4 2 ([] : List Ev)) :: Rs) w36 := hk33 _ _ hS37
 rw [kb2] at hS38
 have hS39 : Sep G W ((RowE (α := Int) own 3 v24 evT.deps) :: (BufO b1 (max 0 (min 5 256)) [evT]) :: (RowE (α := Int) own 3 v7 evT.deps) :: (SetO b4 2 ([] : List Ev)) :: Rs) w36 := hS38
 have hkn40 : ((bAddB (max 0 (min 5 256)) [evT] evT)) = false := (by decide +kernel)
 rw [hkn40]
 refine st (ov_pick_f (v := .bool false) rfl rfl ?_)
 refine st (ov_move (v := .bool false) rfl ?_)
 refine sty rfl rfl (ov_move (v := .pointer (some ⟨b1, 0, none⟩)) rfl ?_)
 refine sty rfl rfl (ov_move (v := .pointer (some ⟨b4, 0, none⟩)) rfl ?_)
 have hS41 : Sep G W ((SetO b4 2 ([] : List Ev)) :: (RowE (α := Int) own 3 v24 evT.deps) :: (BufO b1 (max 0 (min 5 256)) [evT]) :: (RowE (α := Int) own 3 v7 evT.deps) :: Rs) w36 := hS39.sel 4 [3, 0, 1, 2] (Nat.le_add_left _ _) rfl rfl
 obtain ⟨G42, hA44, hB45, hS46, hk47⟩ := hS41.lend
 obtain ⟨vv48, m49, R50, hb51, hv52, hr53⟩ := SetO.sh hA44
 have hsm54 : (vecE 2 ([] : List Ev)).length * 8 ≤ 140737488355328 := hv52.small
 have hS55 : Sep G42 w36 ((BufO b1 (max 0 (min 5 256)) [evT]) :: (RowE (α := Int) own 3 v24 evT.deps) :: (RowE (α := Int) own 3 v7 evT.deps) :: Rs) w36 := hS46.sel 3 [1, 0, 2] (Nat.le_add_left _ _) rfl rfl
 refine sty rfl rfl (ov_call (f := 17) (vals := [.pointer (some ⟨b1, 0, none⟩), .pointer (some ⟨b4, 0, none⟩)]) (cap := []) (show _ = (.func (.func 17) #[] #[] : Value) from rfl) rfl Try.call17 (D_Ready  hA44 hS55 (by decide) (Good.nil) (by decide) (by decide)) ?_)
 rintro v56 w57 ⟨_, rfl, hS58⟩
 have hr59 := hS58.row (i := 0) rfl
 have hr59s : (rdyO 2 ([] : List Ev) ([evT].filter (fun x => !hadE ([] : List Ev) x))).length * 96 ≤ 140737488355328 := hr59.2
 have hS60 : Sep G W ((SetO b4 2 ([] : List Ev)) :: (RowE (α := Ev) own 36 v56 (rdyO 2 ([] : List Ev) ([evT].filter (fun x => !hadE ([] : List Ev) x)))) :: (BufO b1 (max 0 (min 5 256)) (rdyB 2 ([] : List Ev) ([evT].filter (fun x => !hadE ([] : List Ev) x)))) :: (RowE (α := Int) own 3 v24 evT.deps) :: (RowE (α := Int) own 3 v7 evT.deps) :: Rs) w57 := hk47 _ _ hS58
 rw [kb3] at hS60
 have hS61 : Sep G W ((SetO b4 2 ([] : List Ev)) :: (RowE (α := Ev) own 36 v56 ([] : List Ev)) :: (BufO b1 (max 0 (min 5 256)) (rdyB 2 ([] : List Ev) ([evT].filter (fun x => !hadE ([] : List Ev) x)))) :: (RowE (α := Int) own 3 v24 evT.deps) :: (RowE (α := Int) own 3 v7 evT.deps) :: Rs) w57 := hS60
 have hr62 := hS61.row (i := 1) rfl
 have hr62s : ([] : List Ev).length * 96 ≤ 140737488355328 := hr62.2
 rw [kb4] at hS61
 have hS63 : Sep G W ((SetO b4 2 ([] : List Ev)) :: (RowE (α := Ev) own 36 v56 ([] : List Ev)) :: (BufO b1 (max 0 (min 5 256)) [evT]) :: (RowE (α := Int) own 3 v24 evT.deps) :: (RowE (α := Int) own 3 v7 evT.deps) :: Rs) w57 := hS61
 refine sty rfl rfl (ov_len (n := ([] : List Ev).length) Try.underlying22 rfl hr62.1 ?_)
 refine sty rfl rfl (ov_neq (k := .i64) (a := ((([] : List Ev).length : Nat) : Int)) (b := 0) rfl rfl ?_)
 have hkn64 : (!decide (((([] : List Ev).length : Nat) : Int) = 0)) = false := (by decide)
 rw [hkn64]
 refine st (ov_pick_f (v := .bool false) rfl rfl ?_)
 refine st (ov_move (v := .bool false) rfl ?_)
 refine sty rfl rfl (ov_move (v := .pointer (some ⟨b1, 0, none⟩)) rfl ?_)
 refine sty rfl rfl (ov_call (f := 34) (vals := []) (cap := []) (show _ = (.func (.func 34) #[] #[] : Value) from rfl) rfl Try.call34 (D_one  hS63) ?_)
 rintro _ w66 ⟨v65, rfl, hS67⟩
 have hr68 := hS67.row (i := 0) rfl
 have hr68s : evO.deps.length * 8 ≤ 140737488355328 := hr68.2
 obtain ⟨G69, hA71, hB72, hS73, hk74⟩ := hS67.lend
 have hrd75 := RowE.rd hA71
 have hrd75s : evO.deps.length * 8 ≤ 140737488355328 := hrd75.small
 have hS76 : Sep G69 w66 ((BufO b1 (max 0 (min 5 256)) [evT]) :: (SetO b4 2 ([] : List Ev)) :: (RowE (α := Ev) own 36 v56 ([] : List Ev)) :: (RowE (α := Int) own 3 v24 evT.deps) :: (RowE (α := Int) own 3 v7 evT.deps) :: Rs) w66 := hS73.sel 5 [2, 0, 1, 3, 4] (Nat.le_add_left _ _) rfl rfl
 refine sty rfl rfl (ov_call (f := 14) (vals := [.pointer (some ⟨b1, 0, none⟩), .agg (evO.cells v65).toArray]) (cap := []) (show _ = (.func (.func 14) #[] #[] : Value) from rfl) rfl Try.call14 (D_bAddL (e := evO) hrd75 evO_ok hS76 (by decide) (by first | exact List.Pairwise.nil | exact srt1) (by decide)) ?_)
 rintro _ w77 ⟨rfl, hS78⟩
 have hS79 : Sep G W ((RowE (α := Int) own 3 v65 evO.deps) :: (BufO b1 (max 0 (min 5 256)) (bAddL (max 0 (min 5 256)) [evT] evO)) :: (SetO b4 2 ([] : List Ev)) :: (RowE (α := Ev) own 36 v56 ([] : List Ev)) :: (RowE (α := Int) own 3 v24 evT.deps) :: (RowE (α := Int) own 3 v7 evT.deps) :: Rs) w77 := hk74 _ _ hS78
 rw [kb5] at hS79
 have hS80 : Sep G W ((RowE (α := Int) own 3 v65 evO.deps) :: (BufO b1 (max 0 (min 5 256)) [evO, evT]) :: (SetO b4 2 ([] : List Ev)) :: (RowE (α := Ev) own 36 v56 ([] : List Ev)) :: (RowE (α := Int) own 3 v24 evT.deps) :: (RowE (α := Int) own 3 v7 evT.deps) :: Rs) w77 := hS79
 have hkn81 : ((bAddB (max 0 (min 5 256)) [evT] evO)) = true := (by decide +kernel)
 rw [hkn81]
 refine sty rfl rfl (ov_not (a := true) rfl ?_)
 refine st (ov_pick_f (v := .bool false) rfl rfl ?_)
 refine st_nil ?_
 refine WP_cond_f rfl ?_
 refine WP_skip ?_
 refine WP_seq ?_
 refine WP_region0 (by kernel_rfl) (fun _ => ?_)
 refine st (ov_move (v := .pointer (some ⟨b1, 0, none⟩)) rfl ?_)
 refine st (ov_move (v := .pointer (some ⟨b4, 0, none⟩)) rfl ?_)
 have hS82 : Sep G W ((SetO b4 2 ([] : List Ev)) :: (RowE (α := Int) own 3 v65 evO.deps) :: (BufO b1 (max 0 (min 5 256)) [evO, evT]) :: (RowE (α := Ev) own 36 v56 ([] : List Ev)) :: (RowE (α := Int) own 3 v24 evT.deps) :: (RowE (α := Int) own 3 v7 evT.deps) :: Rs) w77 := hS80.sel 6 [2, 0, 1, 3, 4, 5] (Nat.le_add_left _ _) rfl rfl
 obtain ⟨G83, hA85, hB86, hS87, hk88⟩ := hS82.lend
 obtain ⟨vv89, m90, R91, hb92, hv93, hr94⟩ := SetO.sh hA85
 have hsm95 : (vecE 2 ([] : List Ev)).length * 8 ≤ 140737488355328 := hv93.small
 have hS96 : Sep G83 w77 ((BufO b1 (max 0 (min 5 256)) [evO, evT]) :: (RowE (α := Int) own 3 v65 evO.deps) :: (RowE (α := Ev) own 36 v56 ([] : List Ev)) :: (RowE (α := Int) own 3 v24 evT.deps) :: (RowE (α := Int) own 3 v7 evT.deps) :: Rs) w77 := hS87.sel 5 [1, 0, 2, 3, 4] (Nat.le_add_left _ _) rfl rfl
 refine st (ov_call (f := 17) (vals := [.pointer (some ⟨b1, 0, none⟩), .pointer (some ⟨b4, 0, none⟩)]) (cap := []) (show _ = (.func (.func 17) #[] #[] : Value) from rfl) rfl Try.call17 (D_Ready  hA85 hS96 (by decide) (Good.nil) (by decide) (by decide)) ?_)
 rintro v97 w98 ⟨_, rfl, hS99⟩
 have hr100 := hS99.row (i := 0) rfl
 have hr100s : (rdyO 2 ([] : List Ev) ([evO, evT].filter (fun x => !hadE ([] : List Ev) x))).length * 96 ≤ 140737488355328 := hr100.2
 have hS101 : Sep G W ((SetO b4 2 ([] : List Ev)) :: (RowE (α := Ev) own 36 v97 (rdyO 2 ([] : List Ev) ([evO, evT].filter (fun x => !hadE ([] : List Ev) x)))) :: (BufO b1 (max 0 (min 5 256)) (rdyB 2 ([] : List Ev) ([evO, evT].filter (fun x => !hadE ([] : List Ev) x)))) :: (RowE (α := Int) own 3 v65 evO.deps) :: (RowE (α := Ev) own 36 v56 ([] : List Ev)) :: (RowE (α := Int) own 3 v24 evT.deps) :: (RowE (α := Int) own 3 v7 evT.deps) :: Rs) w98 := hk88 _ _ hS99
 rw [kb6] at hS101
 have hS102 : Sep G W ((SetO b4 2 ([] : List Ev)) :: (RowE (α := Ev) own 36 v97 [evO, evT]) :: (BufO b1 (max 0 (min 5 256)) (rdyB 2 ([] : List Ev) ([evO, evT].filter (fun x => !hadE ([] : List Ev) x)))) :: (RowE (α := Int) own 3 v65 evO.deps) :: (RowE (α := Ev) own 36 v56 ([] : List Ev)) :: (RowE (α := Int) own 3 v24 evT.deps) :: (RowE (α := Int) own 3 v7 evT.deps) :: Rs) w98 := hS101
 have hr103 := hS102.row (i := 1) rfl
 have hr103s : [evO, evT].length * 96 ≤ 140737488355328 := hr103.2
 rw [kb7] at hS102
 have hS104 : Sep G W ((SetO b4 2 ([] : List Ev)) :: (RowE (α := Ev) own 36 v97 [evO, evT]) :: (BufO b1 (max 0 (min 5 256)) ([] : List Ev)) :: (RowE (α := Int) own 3 v65 evO.deps) :: (RowE (α := Ev) own 36 v56 ([] : List Ev)) :: (RowE (α := Int) own 3 v24 evT.deps) :: (RowE (α := Int) own 3 v7 evT.deps) :: Rs) w98 := hS102
 refine st (ov_assign (v := v97) rfl ?_)
 refine st_nil ?_
 refine WP_seq ?_
 refine WP_region (by kernel_rfl) ?_
 refine st (ov_move (v := v97) rfl ?_)
 refine st (ov_call (f := 34) (vals := []) (cap := []) (show _ = (.func (.func 34) #[] #[] : Value) from rfl) rfl Try.call34 (D_one  hS104) ?_)
 rintro _ w106 ⟨v105, rfl, hS107⟩
 have hr108 := hS107.row (i := 0) rfl
 have hr108s : evO.deps.length * 8 ≤ 140737488355328 := hr108.2
 refine st (ov_call (f := 33) (vals := []) (cap := []) (show _ = (.func (.func 33) #[] #[] : Value) from rfl) rfl Try.call33 (D_two  hS107) ?_)
 rintro _ w110 ⟨v109, rfl, hS111⟩
 have hr112 := hS111.row (i := 0) rfl
 have hr112s : evT.deps.length * 8 ≤ 140737488355328 := hr112.2
 refine st (ov_buildSlice (k := 10) (parts' := [(0, .agg (evO.cells v105).toArray), (1, .agg (evT.cells v109).toArray)]) (c := #[.int .i64 (evO.origin), .int .i64 (evO.seq), .int .i64 (evO.lam), v105, .int .i64 (evO.typ), .int .i64 (evO.agg), .int .i64 (evO.field), .int .i64 (evO.op), .int .i64 (evO.arg), .int .i64 (evO.key), .int .i64 (evT.origin), .int .i64 (evT.seq), .int .i64 (evT.lam), v109, .int .i64 (evT.typ), .int .i64 (evT.agg), .int .i64 (evT.field), .int .i64 (evT.op), .int .i64 (evT.arg), .int .i64 (evT.key)]) Try.underlying22 Try.sizeOf36 Try.zeroValue36 (by decide) rfl (by kernel_rfl) ?_)
 intro w115 b114 hn113
 have hS116 : Sep G W ((Blk b114 #[.int .i64 (evO.origin), .int .i64 (evO.seq), .int .i64 (evO.lam), v105, .int .i64 (evO.typ), .int .i64 (evO.agg), .int .i64 (evO.field), .int .i64 (evO.op), .int .i64 (evO.arg), .int .i64 (evO.key), .int .i64 (evT.origin), .int .i64 (evT.seq), .int .i64 (evT.lam), v109, .int .i64 (evT.typ), .int .i64 (evT.agg), .int .i64 (evT.field), .int .i64 (evT.op), .int .i64 (evT.arg), .int .i64 (evT.key)] 36) :: (RowE (α := Int) own 3 v109 evT.deps) :: (RowE (α := Int) own 3 v105 evO.deps) :: (SetO b4 2 ([] : List Ev)) :: (RowE (α := Ev) own 36 v97 [evO, evT]) :: (BufO b1 (max 0 (min 5 256)) ([] : List Ev)) :: (RowE (α := Int) own 3 v65 evO.deps) :: (RowE (α := Ev) own 36 v56 ([] : List Ev)) :: (RowE (α := Int) own 3 v24 evT.deps) :: (RowE (α := Int) own 3 v7 evT.deps) :: Rs) w115 := hS111.new hn113
 have hS117 : Sep G W ((RowE (α := Int) own 3 v109 evT.deps) :: (Blk b114 #[.int .i64 (evO.origin), .int .i64 (evO.seq), .int .i64 (evO.lam), v105, .int .i64 (evO.typ), .int .i64 (evO.agg), .int .i64 (evO.field), .int .i64 (evO.op), .int .i64 (evO.arg), .int .i64 (evO.key), .int .i64 (evT.origin), .int .i64 (evT.seq), .int .i64 (evT.lam), v109, .int .i64 (evT.typ), .int .i64 (evT.agg), .int .i64 (evT.field), .int .i64 (evT.op), .int .i64 (evT.arg), .int .i64 (evT.key)] 36) :: (RowE (α := Int) own 3 v105 evO.deps) :: (SetO b4 2 ([] : List Ev)) :: (RowE (α := Ev) own 36 v97 [evO, evT]) :: (BufO b1 (max 0 (min 5 256)) ([] : List Ev)) :: (RowE (α := Int) own 3 v65 evO.deps) :: (RowE (α := Ev) own 36 v56 ([] : List Ev)) :: (RowE (α := Int) own 3 v24 evT.deps) :: (RowE (α := Int) own 3 v7 evT.deps) :: Rs) w115 := hS116.sel 10 [1, 0, 2, 3, 4, 5, 6, 7, 8, 9] (Nat.le_add_left _ _) rfl rfl
 obtain ⟨G118, hA120, hB121, hS122, hk123⟩ := hS117.lend
 have hrd124 := RowE.rd hA120
 have hrd124s : evT.deps.length * 8 ≤ 140737488355328 := hrd124.small
 have hS125 : Sep G118 w115 ((RowE (α := Int) own 3 v105 evO.deps) :: (Blk b114 #[.int .i64 (evO.origin), .int .i64 (evO.seq), .int .i64 (evO.lam), v105, .int .i64 (evO.typ), .int .i64 (evO.agg), .int .i64 (evO.field), .int .i64 (evO.op), .int .i64 (evO.arg), .int .i64 (evO.key), .int .i64 (evT.origin), .int .i64 (evT.seq), .int .i64 (evT.lam), v109, .int .i64 (evT.typ), .int .i64 (evT.agg), .int .i64 (evT.field), .int .i64 (evT.op), .int .i64 (evT.arg), .int .i64 (evT.key)] 36) :: (SetO b4 2 ([] : List Ev)) :: (RowE (α := Ev) own 36 v97 [evO, evT]) :: (BufO b1 (max 0 (min 5 256)) ([] : List Ev)) :: (RowE (α := Int) own 3 v65 evO.deps) :: (RowE (α := Ev) own 36 v56 ([] : List Ev)) :: (RowE (α := Int) own 3 v24 evT.deps) :: (RowE (α := Int) own 3 v7 evT.deps) :: Rs) w115 := hS122.sel 9 [1, 0, 2, 3, 4, 5, 6, 7, 8] (Nat.le_add_left _ _) rfl rfl
 obtain ⟨G126, hA128, hB129, hS130, hk131⟩ := hS125.lend
 have hrd132 := RowE.rd hA128
 have hrd132s : evO.deps.length * 8 ≤ 140737488355328 := hrd132.small
 have hS133 : Sep G126 w115 ((RowE (α := Int) own 3 v65 evO.deps) :: (Blk b114 #[.int .i64 (evO.origin), .int .i64 (evO.seq), .int .i64 (evO.lam), v105, .int .i64 (evO.typ), .int .i64 (evO.agg), .int .i64 (evO.field), .int .i64 (evO.op), .int .i64 (evO.arg), .int .i64 (evO.key), .int .i64 (evT.origin), .int .i64 (evT.seq), .int .i64 (evT.lam), v109, .int .i64 (evT.typ), .int .i64 (evT.agg), .int .i64 (evT.field), .int .i64 (evT.op), .int .i64 (evT.arg), .int .i64 (evT.key)] 36) :: (SetO b4 2 ([] : List Ev)) :: (RowE (α := Ev) own 36 v97 [evO, evT]) :: (BufO b1 (max 0 (min 5 256)) ([] : List Ev)) :: (RowE (α := Ev) own 36 v56 ([] : List Ev)) :: (RowE (α := Int) own 3 v24 evT.deps) :: (RowE (α := Int) own 3 v7 evT.deps) :: Rs) w115 := hS130.sel 8 [4, 0, 1, 2, 3, 5, 6, 7] (Nat.le_add_left _ _) rfl rfl
 obtain ⟨G134, hA136, hB137, hS138, hk139⟩ := hS133.lend
 have hrd140 := RowE.rd hA136
 have hrd140s : evO.deps.length * 8 ≤ 140737488355328 := hrd140.small
 have hS141 : Sep G134 w115 ((RowE (α := Int) own 3 v24 evT.deps) :: (Blk b114 #[.int .i64 (evO.origin), .int .i64 (evO.seq), .int .i64 (evO.lam), v105, .int .i64 (evO.typ), .int .i64 (evO.agg), .int .i64 (evO.field), .int .i64 (evO.op), .int .i64 (evO.arg), .int .i64 (evO.key), .int .i64 (evT.origin), .int .i64 (evT.seq), .int .i64 (evT.lam), v109, .int .i64 (evT.typ), .int .i64 (evT.agg), .int .i64 (evT.field), .int .i64 (evT.op), .int .i64 (evT.arg), .int .i64 (evT.key)] 36) :: (SetO b4 2 ([] : List Ev)) :: (RowE (α := Ev) own 36 v97 [evO, evT]) :: (BufO b1 (max 0 (min 5 256)) ([] : List Ev)) :: (RowE (α := Ev) own 36 v56 ([] : List Ev)) :: (RowE (α := Int) own 3 v7 evT.deps) :: Rs) w115 := hS138.sel 7 [5, 0, 1, 2, 3, 4, 6] (Nat.le_add_left _ _) rfl rfl
 obtain ⟨G142, hA144, hB145, hS146, hk147⟩ := hS141.lend
 have hrd148 := RowE.rd hA144
 have hrd148s : evT.deps.length * 8 ≤ 140737488355328 := hrd148.small
 have hS149 : Sep G142 w115 ((RowE (α := Int) own 3 v7 evT.deps) :: (Blk b114 #[.int .i64 (evO.origin), .int .i64 (evO.seq), .int .i64 (evO.lam), v105, .int .i64 (evO.typ), .int .i64 (evO.agg), .int .i64 (evO.field), .int .i64 (evO.op), .int .i64 (evO.arg), .int .i64 (evO.key), .int .i64 (evT.origin), .int .i64 (evT.seq), .int .i64 (evT.lam), v109, .int .i64 (evT.typ), .int .i64 (evT.agg), .int .i64 (evT.field), .int .i64 (evT.op), .int .i64 (evT.arg), .int .i64 (evT.key)] 36) :: (SetO b4 2 ([] : List Ev)) :: (RowE (α := Ev) own 36 v97 [evO, evT]) :: (BufO b1 (max 0 (min 5 256)) ([] : List Ev)) :: (RowE (α := Ev) own 36 v56 ([] : List Ev)) :: Rs) w115 := hS146.sel 6 [5, 0, 1, 2, 3, 4] (Nat.le_add_left _ _) rfl rfl
 obtain ⟨G150, hA152, hB153, hS154, hk155⟩ := hS149.lend
 have hrd156 := RowE.rd hA152
 have hrd156s : evT.deps.length * 8 ≤ 140737488355328 := hrd156.small
 have hS157 : Sep G150 w115 ((RowE (α := Ev) own 36 v97 [evO, evT]) :: (Blk b114 #[.int .i64 (evO.origin), .int .i64 (evO.seq), .int .i64 (evO.lam), v105, .int .i64 (evO.typ), .int .i64 (evO.agg), .int .i64 (evO.field), .int .i64 (evO.op), .int .i64 (evO.arg), .int .i64 (evO.key), .int .i64 (evT.origin), .int .i64 (evT.seq), .int .i64 (evT.lam), v109, .int .i64 (evT.typ), .int .i64 (evT.agg), .int .i64 (evT.field), .int .i64 (evT.op), .int .i64 (evT.arg), .int .i64 (evT.key)] 36) :: (SetO b4 2 ([] : List Ev)) :: (BufO b1 (max 0 (min 5 256)) ([] : List Ev)) :: (RowE (α := Ev) own 36 v56 ([] : List Ev)) :: Rs) w115 := hS154.sel 5 [2, 0, 1, 3, 4] (Nat.le_add_left _ _) rfl rfl
 obtain ⟨G158, hA160, hB161, hS162, hk163⟩ := hS157.lend
 have hrd164 := RowE.rd hA160
 have hrd164s : [evO, evT].length * 96 ≤ 140737488355328 := hrd164.small
 have hS165 : Sep G158 w115 ((RowE (α := Ev) (shr G158 w115) 36 (.slice (some ⟨b114, 0, none⟩) 2 2) [evO, evT]) :: (SetO b4 2 ([] : List Ev)) :: (BufO b1 (max 0 (min 5 256)) ([] : List Ev)) :: (RowE (α := Ev) own 36 v56 ([] : List Ev)) :: Rs) w115 := Sep.blkRow (src := (shr G158 w115)) (l := [evO, evT]) (css := [evO.cells v105, evT.cells v109]) hS162 rfl ⟨fun _ _ => ⟨_, rfl, (RdS.base (RdS.base (RdS.base (RdS.base hrd132 hB137) hB145) hB153) hB161), evO_ok⟩, fun _ _ => ⟨_, rfl, (RdS.base (RdS.base (RdS.base (RdS.base (RdS.base hrd124 hB129) hB137) hB145) hB153) hB161), evT_ok⟩, trivial⟩ (by first | decide | (simp only [List.length_cons, List.length_nil]; decide))
 have hr166 := hS165.row (i := 0) rfl
 have hr166s : [evO, evT].length * 96 ≤ 140737488355328 := hr166.2
 obtain ⟨G167, hA169, hB170, hS171, hk172⟩ := hS165.lend
 have hrd173 := RowE.rdB hA169 hB170
 have hrd173s : [evO, evT].length * 96 ≤ 140737488355328 := hrd173.small
 refine st (ov_call (f := 19) (vals := [v97, (.slice (some ⟨b114, 0, none⟩) 2 2)]) (cap := []) (show _ = (.func (.func 19) #[] #[] : Value) from rfl) rfl Try.call19 (D_sameEvents (a := [evO, evT]) (va := v97) (b := [evO, evT]) (vb := (.slice (some ⟨b114, 0, none⟩) 2 2)) (RdS.base hrd164 hB170) hrd173 hS171) ?_)
 rintro _ w174 ⟨rfl, hS175⟩
 have hS176 : Sep G158 w115 ((RowE (α := Ev) (shr G158 w115) 36 (.slice (some ⟨b114, 0, none⟩) 2 2) [evO, evT]) :: (SetO b4 2 ([] : List Ev)) :: (BufO b1 (max 0 (min 5 256)) ([] : List Ev)) :: (RowE (α := Ev) own 36 v56 ([] : List Ev)) :: Rs) w174 := hk172 _ _ hS175
 have hS177 : Sep G150 w115 ((RowE (α := Ev) own 36 v97 [evO, evT]) :: (RowE (α := Ev) (shr G158 w115) 36 (.slice (some ⟨b114, 0, none⟩) 2 2) [evO, evT]) :: (SetO b4 2 ([] : List Ev)) :: (BufO b1 (max 0 (min 5 256)) ([] : List Ev)) :: (RowE (α := Ev) own 36 v56 ([] : List Ev)) :: Rs) w174 := hk163 _ _ hS176
 have hS178 : Sep G150 w115 ((RowE (α := Ev) own 36 v97 [evO, evT]) :: (SetO b4 2 ([] : List Ev)) :: (BufO b1 (max 0 (min 5 256)) ([] : List Ev)) :: (RowE (α := Ev) own 36 v56 ([] : List Ev)) :: Rs) w174 := hS177.sel 5 [0, 2, 3, 4] (Nat.le_add_left _ _) rfl rfl
 have hkn179 : (decide ([evO, evT] = [evO, evT])) = true := (by decide +kernel)
 rw [hkn179]
 refine st (ov_move (v := .bool true) rfl ?_)
 refine sty rfl rfl (ov_move (v := .pointer (some ⟨b1, 0, none⟩)) rfl ?_)
 have hS180 : Sep G150 w115 ((BufO b1 (max 0 (min 5 256)) ([] : List Ev)) :: (RowE (α := Ev) own 36 v97 [evO, evT]) :: (SetO b4 2 ([] : List Ev)) :: (RowE (α := Ev) own 36 v56 ([] : List Ev)) :: Rs) w174 := hS178.sel 4 [2, 0, 1, 3] (Nat.le_add_left _ _) rfl rfl
 obtain ⟨G181, hA183, hB184, hS185, hk186⟩ := hS180.lend
 obtain ⟨vl187, hb188, hl189⟩ := BufO.sh hA183
 have hsm190 : ([] : List Ev).length * 96 ≤ 140737488355328 := hl189.small
 refine sty rfl rfl (ov_call (f := 18) (vals := [.pointer (some ⟨b1, 0, none⟩)]) (cap := []) (show _ = (.func (.func 18) #[] #[] : Value) from rfl) rfl Try.call18 (D_bLen  hA183 hS185) ?_)
 rintro _ w191 ⟨rfl, hS192⟩
 have hS193 : Sep G150 w115 ((BufO b1 (max 0 (min 5 256)) ([] : List Ev)) :: (RowE (α := Ev) own 36 v97 [evO, evT]) :: (SetO b4 2 ([] : List Ev)) :: (RowE (α := Ev) own 36 v56 ([] : List Ev)) :: Rs) w191 := hk186 _ _ hS192
 refine sty rfl rfl (ov_eql (k := .i64) (a := ((([] : List Ev).length : Nat) : Int)) (b := 0) rfl rfl ?_)
 have hkn194 : (decide (((([] : List Ev).length : Nat) : Int) = 0)) = true := (by decide)
 rw [hkn194]
 refine st (ov_pick_t (v := .bool true) rfl rfl ?_)
 refine st (ov_move (v := .bool true) rfl ?_)
 refine sty rfl rfl (ov_move (v := .pointer (some ⟨b4, 0, none⟩)) rfl ?_)
 have hS195 : Sep G150 w115 ((SetO b4 2 ([] : List Ev)) :: (BufO b1 (max 0 (min 5 256)) ([] : List Ev)) :: (RowE (α := Ev) own 36 v97 [evO, evT]) :: (RowE (α := Ev) own 36 v56 ([] : List Ev)) :: Rs) w191 := hS193.sel 4 [2, 0, 1, 3] (Nat.le_add_left _ _) rfl rfl
 obtain ⟨G196, hA198, hB199, hS200, hk201⟩ := hS195.lend
 obtain ⟨vv202, m203, R204, hb205, hv206, hr207⟩ := SetO.sh hA198
 have hsm208 : (vecE 2 ([] : List Ev)).length * 8 ≤ 140737488355328 := hv206.small
 refine sty rfl rfl (ov_call (f := 35) (vals := [.pointer (some ⟨b4, 0, none⟩)]) (cap := []) (show _ = (.func (.func 35) #[] #[] : Value) from rfl) rfl Try.call35 (D_Len  hA198 hS200 (by decide)) ?_)
 rintro _ w209 ⟨rfl, hS210⟩
 have hS211 : Sep G150 w115 ((SetO b4 2 ([] : List Ev)) :: (BufO b1 (max 0 (min 5 256)) ([] : List Ev)) :: (RowE (α := Ev) own 36 v97 [evO, evT]) :: (RowE (α := Ev) own 36 v56 ([] : List Ev)) :: Rs) w209 := hk201 _ _ hS210
 refine sty rfl rfl (ov_eql (k := .i64) (a := ((([] : List Ev).length : Nat) : Int)) (b := 0) rfl rfl ?_)
 have hkn212 : (decide (((([] : List Ev).length : Nat) : Int) = 0)) = true := (by decide)
 rw [hkn212]
 refine st (ov_pick_t (v := .bool true) rfl rfl ?_)
 refine st (ov_assign (v := .bool true) rfl ?_)
 refine st_nil ?_
 refine WP_ret ?_
 refine fin1 Try.results9 (show _ = (.bool true : Value) from rfl) ?_
 have hS213 : Sep G142 w115 ((RowE (α := Int) own 3 v7 evT.deps) :: (SetO b4 2 ([] : List Ev)) :: (BufO b1 (max 0 (min 5 256)) ([] : List Ev)) :: (RowE (α := Ev) own 36 v97 [evO, evT]) :: (RowE (α := Ev) own 36 v56 ([] : List Ev)) :: Rs) w209 := hk155 _ _ hS211
 have hS214 : Sep G134 w115 ((RowE (α := Int) own 3 v24 evT.deps) :: (RowE (α := Int) own 3 v7 evT.deps) :: (SetO b4 2 ([] : List Ev)) :: (BufO b1 (max 0 (min 5 256)) ([] : List Ev)) :: (RowE (α := Ev) own 36 v97 [evO, evT]) :: (RowE (α := Ev) own 36 v56 ([] : List Ev)) :: Rs) w209 := hk147 _ _ hS213
 have hS215 : Sep G126 w115 ((RowE (α := Int) own 3 v65 evO.deps) :: (RowE (α := Int) own 3 v24 evT.deps) :: (RowE (α := Int) own 3 v7 evT.deps) :: (SetO b4 2 ([] : List Ev)) :: (BufO b1 (max 0 (min 5 256)) ([] : List Ev)) :: (RowE (α := Ev) own 36 v97 [evO, evT]) :: (RowE (α := Ev) own 36 v56 ([] : List Ev)) :: Rs) w209 := hk139 _ _ hS214
 have hS216 : Sep G118 w115 ((RowE (α := Int) own 3 v105 evO.deps) :: (RowE (α := Int) own 3 v65 evO.deps) :: (RowE (α := Int) own 3 v24 evT.deps) :: (RowE (α := Int) own 3 v7 evT.deps) :: (SetO b4 2 ([] : List Ev)) :: (BufO b1 (max 0 (min 5 256)) ([] : List Ev)) :: (RowE (α := Ev) own 36 v97 [evO, evT]) :: (RowE (α := Ev) own 36 v56 ([] : List Ev)) :: Rs) w209 := hk131 _ _ hS215
 have hS217 : Sep G W ((RowE (α := Int) own 3 v109 evT.deps) :: (RowE (α := Int) own 3 v105 evO.deps) :: (RowE (α := Int) own 3 v65 evO.deps) :: (RowE (α := Int) own 3 v24 evT.deps) :: (RowE (α := Int) own 3 v7 evT.deps) :: (SetO b4 2 ([] : List Ev)) :: (BufO b1 (max 0 (min 5 256)) ([] : List Ev)) :: (RowE (α := Ev) own 36 v97 [evO, evT]) :: (RowE (α := Ev) own 36 v56 ([] : List Ev)) :: Rs) w209 := hk123 _ _ hS216
 have hS218 : Sep G W Rs w209 := hS217.sel 9 [] (Nat.le_add_left _ _) rfl rfl
 refine ⟨rfl, hS218⟩

end Go.Proofs.Ytmiihhbeclhaoaa
end

section
/- Steps of the proofs of this seat: part E2. -/
set_option linter.unusedSimpArgs false
set_option linter.unusedVariables false
set_option maxRecDepth 8000
set_option maxHeartbeats 4000000
namespace Go.Proofs.Ytmiihhbeclhaoaa
open Go.Proofs Go.RowKit

structure RoomI (m : Int) (k : Nat) (B : List Ev) : Prop where
  len : ((B.length : Nat) : Int) = min ((k : Nat) : Int) m
  srt : Srt B
  seq : ∀ x ∈ B, x.seq ≤ k
end Go.Proofs.Ytmiihhbeclhaoaa
end

section
/- Plain laws of chapter 25: the first ones of each Id; what is told can be added; nothing is lost. -/
set_option linter.unusedSimpArgs false
set_option linter.unusedVariables false
namespace Go.Proofs.Ytmiihhbeclhaoaa
open Go.Proofs Go.RowKit

def chainOk (n : Nat) : List Ev → List Ev → Prop
  | _, [] => True
  | T, e :: O => addE n T e = 0 ∧ chainOk n (addL n T e) O
section
variable {l A B L T O : List Ev} {e x : Ev} {n k : Nat} {m : Int}
theorem has_perm (h : A.Perm B) : hasId A e = hasId B e := by
  unfold hasId
  rw [Bool.eq_iff_iff, List.any_eq_true, List.any_eq_true]
  exact ⟨fun ⟨x, hx, hs⟩ => ⟨x, h.mem_iff.1 hx, hs⟩, fun ⟨x, hx, hs⟩ => ⟨x, h.mem_iff.2 hx, hs⟩⟩
theorem sort_len : (sortE l).length = l.length := sortE_perm.length_eq
theorem rdy_cases : (∀ i, i < B.length → canE n T (B.getD i default) = false) ∨ ∃ q, q < B.length ∧ canE n T (B.getD q default) = true ∧ ∀ i, i < q → canE n T (B.getD i default) = false := by
  cases h : B.findIdx? (canE n T) with
  | none =>
    left
    rw [List.findIdx?_eq_none_iff] at h
    exact fun i hi => h _ (getD_mem hi)
  | some q =>
    right
    rw [List.findIdx?_eq_some_iff_getElem] at h
    obtain ⟨hq, h1, h2⟩ := h
    refine ⟨q, hq, by rw [getD_at _ hq]; exact h1, fun i hi => ?_⟩
    have := h2 i hi
    rw [getD_at _ (by omega)]
    simpa using this
theorem erase_perm {q : Nat} (hq : q < B.length) : B.Perm (B.getD q default :: B.eraseIdx q) := by
  rw [getD_at _ hq, List.eraseIdx_eq_take_drop_succ]
  conv => lhs; rw [← List.take_append_drop q B, List.drop_eq_getElem_cons hq]
  exact List.perm_middle
theorem rdy_all : ∀ (k : Nat) {T B : List Ev}, B.length = k → chainOk n T (rdyO n T B) ∧ (rdyO n T B ++ rdyB n T B).Perm B ∧ ∀ e ∈ rdyB n T B, canE n ((rdyO n T B).foldl (addL n) T) e = false := by
  intro k
  induction k with
  | zero =>
    intro T B hB
    obtain ⟨h1, h2⟩ := rdy_none (n := n) (T := T) (B := B) (fun i hi => by omega)
    rw [h1, h2]
    exact ⟨trivial, List.Perm.refl _, fun e he => by rw [List.length_eq_zero_iff.1 hB] at he; simp at he⟩
  | succ k ih =>
    intro T B hB
    rcases rdy_cases (n := n) (T := T) (B := B) with h | ⟨q, hq, hc, hm⟩
    · obtain ⟨h1, h2⟩ := rdy_none h
      rw [h1, h2]
      refine ⟨trivial, List.Perm.refl _, fun e he => ?_⟩
      obtain ⟨i, hi, rfl⟩ := List.getElem_of_mem he
      have := h i hi
      rw [getD_at _ hi] at this; exact this
    · obtain ⟨h1, h2⟩ := rdy_step hq hc hm
      have hl : (B.eraseIdx q).length = k := by rw [List.length_eraseIdx_of_lt hq]; omega
      obtain ⟨i1, i2, i3⟩ := ih (T := addL n T (B.getD q default)) hl
      rw [h1, h2]
      refine ⟨⟨of_decide_eq_true hc, i1⟩, ?_, fun e he => i3 e he⟩
      rw [List.cons_append]
      exact (i2.cons _).trans (erase_perm hq).symm
end
end Go.Proofs.Ytmiihhbeclhaoaa
end

section
/- Steps of the proofs of this seat: part E3. -/
set_option linter.unusedSimpArgs false
set_option linter.unusedVariables false
set_option maxRecDepth 8000
set_option maxHeartbeats 4000000
namespace Go.Proofs.Ytmiihhbeclhaoaa
open Go.Proofs Go.RowKit

end Go.Proofs.Ytmiihhbeclhaoaa
end

section
/- Plain laws of chapter 25: in whatever order they come. -/
set_option linter.unusedSimpArgs false
set_option linter.unusedVariables false
namespace Go.Proofs.Ytmiihhbeclhaoaa
open Go.Proofs Go.RowKit

section
variable {W : List Ev} {e x : Ev} {f i j k : Nat} {m : Int}
end
end Go.Proofs.Ytmiihhbeclhaoaa
end

section
/- Steps of the proofs of this seat: part E4. -/
set_option linter.unusedSimpArgs false
set_option linter.unusedVariables false
set_option maxRecDepth 8000
set_option maxHeartbeats 4000000
namespace Go.Proofs.Ytmiihhbeclhaoaa
open Go.Proofs Go.RowKit

end Go.Proofs.Ytmiihhbeclhaoaa
end
