/- Steps of the proofs of this seat: part B1. -/
import Derived.Test.YtgjgmojjeehieaaPlain09
set_option linter.unusedSimpArgs false
set_option linter.unusedVariables false
set_option maxRecDepth 8000
set_option maxHeartbeats 4000000
namespace Go.Proofs.Ytgjgmojjeehieaa
open Go.Proofs Go.RowKit

theorem D_sameEvents {G : Nat → Prop} {W w : World} {Rs : List HP} {va : Value} {a : List Ev} (ha : RdS W G va a) {vb : Value} {b : List Ev} (hb : RdS W G vb b) (hS0 : Sep G W Rs w) : Ret Try.prog 22 [va, vb] w (fun r w' => r = (.bool (decide (a = b)) : Value) ∧ Sep G W Rs w') := by
 have has : a.length * 96 ≤ 140737488355328 := ha.small
 have hbs : b.length * 96 ≤ 140737488355328 := hb.small
 refine Calls_of_WP (args := [va, vb]) Try.func22 rfl rfl ?_
 refine WP_seq ?_
 refine WP_region0 (by kernel_rfl) (fun _ => ?_)
 refine st (ov_assign (v := .bool false) rfl ?_)
 refine st_nil ?_
 refine WP_seq ?_
 refine WP_seq ?_
 refine WP_region0 (by kernel_rfl) (fun _ => ?_)
 refine st (ov_move (v := va) rfl ?_)
 refine st (ov_len (n := a.length) Try.underlying22 rfl ha.sl ?_)
 refine st (ov_move (v := vb) rfl ?_)
 refine st (ov_len (n := b.length) Try.underlying22 rfl hb.sl ?_)
 refine st (ov_neq (k := .i64) (a := ((a.length : Nat) : Int)) (b := ((b.length : Nat) : Int)) rfl rfl ?_)
 refine st_nil ?_
 cases hc1 : !decide (((a.length : Nat) : Int) = ((b.length : Nat) : Int))
 ·skip
  have hc1 := ndec_false hc1
  refine WP_cond_f rfl ?_
  refine WP_skip ?_
  refine WP_seq ?_
  refine WP_seq ?_
  refine WP_region0 (by kernel_rfl) (fun _ => ?_)
  refine st (ov_assign (v := .int .i64 (0)) rfl ?_)
  refine st_nil ?_
  refine WP_block ?_
  refine WP_loop (fun mq σ wq => ∃ (k : Nat) (ρ : Env), mq = a.length - k ∧ σ = setAll ρ [(0, va), (1, vb), (5, .int .i64 ((k : Nat) : Int))] ∧ (k ≤ a.length) ∧ (∀ i, i < k → a.getD i default = b.getD i default) ∧ Sep G W Rs wq) ⟨0, _, rfl, setAll_self ⟨rfl, rfl, rfl, trivial⟩, Nat.zero_le _, (fun i h => absurd h (Nat.not_lt_zero i)), hS0⟩ ?_
  rintro m3 σ4 w2 ⟨k, ρl1, rfl, rfl, hkk, hm, hS5⟩
  refine WP_seq ?_
  refine WP_seq ?_
  refine WP_region0 (by kernel_rfl) (fun _ => ?_)
  refine st (ov_move (v := .int .i64 ((k : Nat) : Int)) rfl ?_)
  refine st (ov_move (v := va) rfl ?_)
  refine st (ov_len (n := a.length) Try.underlying22 rfl ha.sl ?_)
  refine st (ov_lss (k := .i64) (a := ((k : Nat) : Int)) (b := ((a.length : Nat) : Int)) rfl rfl ?_)
  refine st_nil ?_
  cases hc6 : decide (((k : Nat) : Int) < ((a.length : Nat) : Int))
  ·skip
   have hc6 := of_decide_eq_false hc6
   refine WP_cond_f rfl ?_
   refine WP_exit ?_
   refine blk_exit ?_
   refine WP_seq ?_
   refine WP_region0 (by kernel_rfl) (fun _ => ?_)
   refine st (ov_assign (v := .bool true) rfl ?_)
   refine st_nil ?_
   refine WP_ret ?_
   refine fin1 Try.results22 (show _ = (.bool true : Value) from rfl) ?_
   refine ⟨?_, hS5⟩
   rw [decide_eq_true (ext_getD (by omega) (fun i hi => hm i (by omega)))]
  ·skip
   have hc6 := of_decide_eq_true hc6
   refine WP_cond_t rfl ?_
   refine WP_skip ?_
   refine WP_seq ?_
   refine WP_block ?_
   refine WP_seq ?_
   refine WP_draw4 (WF [fun vals wq => Sep G W Rs wq, fun vals wq => (vals 8 = (.bool (decide ((a.getD k default) = (b.getD k default))) : Value)) ∧ Sep G W Rs wq]) (AF [Vl 0 (va), Vl 1 (.int .i64 ((k : Nat) : Int)), Vl 2 (.pointer (some ⟨sb va, so va + k * 10, none⟩)), Vl 3 (.agg ((a.getD k default).cells (cellV W (sb va) (so va + k * 10 + 3))).toArray), Vl 4 (vb), Vl 5 (.int .i64 ((k : Nat) : Int)), Vl 6 (.pointer (some ⟨sb vb, so vb + k * 10, none⟩)), Vl 7 (.agg ((b.getD k default).cells (cellV W (sb vb) (so vb + k * 10 + 3))).toArray), fun _ => True, Vl 9 (.bool (!(decide ((a.getD k default) = (b.getD k default)))))]) [[], [], [0, 1], [0, 1, 2], [], [], [4, 5], [4, 5, 6], [0, 1, 2, 3, 4, 5, 6, 7], [0, 1, 2, 3, 4, 5, 6, 7, 8]] [8] [(0, 0), (0, 0), (0, 0), (0, 0), (0, 0), (0, 0), (0, 0), (0, 0), (0, 0), (1, 1)] (by kernel_rfl) (by kernel_rfl) (by kernel_rfl) rfl (by kernel_rfl) (by kernel_rfl) (fun _ h1 h2 h3 h4 _ => hS5.same h1 h2 h3 h4) ?_ (AF_loc ⟨dA, dA, dA, dA, dA, dA, dA, dA, dT, dA, trivial⟩) ⟨?_, ?_, ?_, ?_, ?_, ?_, ?_, ?_, ?_, ?_, trivial⟩ ?_
   ·intro k vals vals' w hv h
    have e : ∀ j ∈ ([8] : List Nat), vals' j = vals j := hv
    match k, h with
    | 0, h => exact h
    | 1, h => exact (by simpa only [WF, List.getElem?_cons_zero, List.getElem?_cons_succ, e 8 (by decide)] using h)
    | _ + 2, _ => trivial
   ·intro k102 vals w103 h106 h107 hW105 hA104
    refine obl rfl ?_
    exact ov_move (v := va) rfl (fun vals' hv _ => ⟨rfl, hv⟩)
   ·intro k108 vals w109 h112 h113 hW111 hA110
    refine obl rfl ?_
    exact ov_move (v := .int .i64 ((k : Nat) : Int)) rfl (fun vals' hv _ => ⟨rfl, hv⟩)
   ·intro k114 vals w115 h118 h119 hW117 hA116
    obtain rfl : k114 = 0 := Nat.le_antisymm h119 h118
    have hS120 : Sep G W Rs w115 := hW117
    have e121 := hA116 0 (by decide)
    have e122 := hA116 1 (by decide)
    refine obl rfl ?_
    have hi123 : k < a.length := (by first | omega | (simp only [lens]; omega))
    exact ov_indexAddrN (k := 10) (i := k) Try.underlying22 Try.sizeOf36 e121 ha.sl e122 hi123 (fun vals' hv _ => ⟨rfl, hv⟩)
   ·intro k124 vals w125 h128 h129 hW127 hA126
    obtain rfl : k124 = 0 := Nat.le_antisymm h129 h128
    have hS130 : Sep G W Rs w125 := hW127
    have e131 := hA126 2 (by decide)
    refine obl rfl ?_
    have hi133 : k < a.length := (by first | omega | (simp only [lens]; omega))
    obtain ⟨hce132, hde132_0, hoke132⟩ := ha.ev hi133
    rw [← getD_at default hi133] at hce132 hde132_0 hoke132
    have hsm134 : ((a.getD k default).deps).length * 8 ≤ 140737488355328 := hde132_0.small
    have hcw135 := hS130.cells hce132 (ha.foot (ne_of_lt hi133))
    exact ov_loadk (k := 10) Try.isAgg36 Try.sizeOf36 rfl e131 hcw135 (fun vals' hv _ => ⟨rfl, hv⟩)
   ·intro k136 vals w137 h140 h141 hW139 hA138
    refine obl rfl ?_
    exact ov_move (v := vb) rfl (fun vals' hv _ => ⟨rfl, hv⟩)
   ·intro k142 vals w143 h146 h147 hW145 hA144
    refine obl rfl ?_
    exact ov_move (v := .int .i64 ((k : Nat) : Int)) rfl (fun vals' hv _ => ⟨rfl, hv⟩)
   ·intro k148 vals w149 h152 h153 hW151 hA150
    obtain rfl : k148 = 0 := Nat.le_antisymm h153 h152
    have hS154 : Sep G W Rs w149 := hW151
    have e155 := hA150 4 (by decide)
    have e156 := hA150 5 (by decide)
    refine obl rfl ?_
    have hi157 : k < b.length := (by first | omega | (simp only [lens]; omega))
    exact ov_indexAddrN (k := 10) (i := k) Try.underlying22 Try.sizeOf36 e155 hb.sl e156 hi157 (fun vals' hv _ => ⟨rfl, hv⟩)
   ·intro k158 vals w159 h162 h163 hW161 hA160
    obtain rfl : k158 = 0 := Nat.le_antisymm h163 h162
    have hS164 : Sep G W Rs w159 := hW161
    have e165 := hA160 6 (by decide)
    refine obl rfl ?_
    have hi167 : k < b.length := (by first | omega | (simp only [lens]; omega))
    obtain ⟨hce166, hde166_0, hoke166⟩ := hb.ev hi167
    rw [← getD_at default hi167] at hce166 hde166_0 hoke166
    have hsm168 : ((b.getD k default).deps).length * 8 ≤ 140737488355328 := hde166_0.small
    have hcw169 := hS164.cells hce166 (hb.foot (ne_of_lt hi167))
    exact ov_loadk (k := 10) Try.isAgg36 Try.sizeOf36 rfl e165 hcw169 (fun vals' hv _ => ⟨rfl, hv⟩)
   ·intro k75 vals w76 h79 h80 hW78 hA77
    obtain rfl : k75 = 0 := Nat.le_antisymm h80 h79
    have hS81 : Sep G W Rs w76 := hW78
    have e82 := hA77 3 (by decide)
    have e83 := hA77 7 (by decide)
    refine obl rfl ?_
    have hi85 : k < a.length := (by first | omega | (simp only [lens]; omega))
    obtain ⟨hce84, hde84_0, hoke84⟩ := ha.ev hi85
    rw [← getD_at default hi85] at hce84 hde84_0 hoke84
    have hsm86 : ((a.getD k default).deps).length * 8 ≤ 140737488355328 := hde84_0.small
    have hcw87 := hS81.cells hce84 (ha.foot (ne_of_lt hi85))
    have hi89 : k < b.length := (by first | omega | (simp only [lens]; omega))
    obtain ⟨hce88, hde88_0, hoke88⟩ := hb.ev hi89
    rw [← getD_at default hi89] at hce88 hde88_0 hoke88
    have hsm90 : ((b.getD k default).deps).length * 8 ≤ 140737488355328 := hde88_0.small
    have hcw91 := hS81.cells hce88 (hb.foot (ne_of_lt hi89))
    refine (ov_call (f := 30) (vals := [.agg ((a.getD k default).cells (cellV W (sb va) (so va + k * 10 + 3))).toArray, .agg ((b.getD k default).cells (cellV W (sb vb) (so vb + k * 10 + 3))).toArray]) (cap := []) (show _ = (.func (.func 30) #[] #[] : Value) from rfl) (mapL ⟨e82, e83, trivial⟩) Try.call30 (D_sameEvent (a := (a.getD k default)) (b := (b.getD k default)) hde84_0 hoke84 hde88_0 hoke88 hS81) ?_)
    rintro _ w92 ⟨rfl, hS93⟩
    intro vals' hv hv'
    refine ⟨?_, trivial⟩
    show (vals' 8 = (.bool (decide ((a.getD k default) = (b.getD k default))) : Value)) ∧ Sep G W Rs w92
    exact ⟨hv, hS93⟩
   ·intro k170 vals w171 h174 h175 hW173 hA172
    obtain rfl : k170 = 1 := Nat.le_antisymm h175 h174
    obtain ⟨he94, hS176⟩ := hW173
    refine obl rfl ?_
    exact ov_not (a := decide ((a.getD k default) = (b.getD k default))) he94 (fun vals' hv _ => ⟨rfl, hv⟩)
   intro vals w177 hW178 hA179
   obtain ⟨he94, hS180⟩ := hW178
   have e181 := hA179 9 (by decide)
   refine st_env (kv := [(0, va), (1, vb), (5, .int .i64 ((k : Nat) : Int)), (11, .int .i64 ((k : Nat) : Int)), (12, va), (13, .int .i64 ((a.length : Nat) : Int)), (14, .bool true), (26, .bool (!(decide ((a.getD k default) = (b.getD k default)))))]) ⟨rfl, rfl, rfl, rfl, rfl, rfl, rfl, (by exact e181), trivial⟩ (fun ρw177 => ?_)
   refine st_nil ?_
   cases hc182 : !(decide ((a.getD k default) = (b.getD k default)))
   ·skip
    have hc182 := ndec_false hc182
    refine WP_cond_f rfl ?_
    refine WP_skip ?_
    refine WP_region0 (by kernel_rfl) (fun _ => ?_)
    refine st (ov_move (v := .int .i64 ((k : Nat) : Int)) rfl ?_)
    have hr183 : InR ((k + 1 : Nat) : Int) := by first | omega | (simp only [lens]; omega)
    refine st (ov_add (r := ((k + 1 : Nat) : Int)) (k := .i64) (a := ((k : Nat) : Int)) (b := 1) rfl rfl (by rw [show (((k : Nat) : Int) + 1 : Int) = ((k + 1 : Nat) : Int) by first | omega | (simp only [lens]; omega)]; exact wrap_in hr183) ?_)
    refine st (ov_assign (v := .int .i64 ((k + 1 : Nat) : Int)) rfl ?_)
    refine st_nil ?_
    exact ⟨_, by omega, k + 1, _, rfl, setAll_self ⟨rfl, rfl, rfl, trivial⟩, by omega, (all_step hm (by simpa using hc182)), hS180⟩
   ·skip
    have hc182 := ndec_true hc182
    refine WP_cond_t rfl ?_
    refine WP_seq ?_
    refine WP_region0 (by kernel_rfl) (fun _ => ?_)
    refine st (ov_assign (v := .bool false) rfl ?_)
    refine st_nil ?_
    refine WP_ret ?_
    refine fin1 Try.results22 (show _ = (.bool false : Value) from rfl) ?_
    refine ⟨?_, hS180⟩
    rw [decide_eq_false (fun e => by subst e; first | omega | (simp at hc182))]
 ·skip
  have hc1 := ndec_true hc1
  refine WP_cond_t rfl ?_
  refine WP_seq ?_
  refine WP_region0 (by kernel_rfl) (fun _ => ?_)
  refine st (ov_assign (v := .bool false) rfl ?_)
  refine st_nil ?_
  refine WP_ret ?_
  refine fin1 Try.results22 (show _ = (.bool false : Value) from rfl) ?_
  refine ⟨?_, hS0⟩
  rw [decide_eq_false (fun e => by subst e; first | omega | (simp at hc1))]

theorem laid_step {n : Nat} {l : List Ev} {k : Nat} (hk : k < l.length) : addL n (laidL n (l.take k)) (l.getD k default) = laidL n (l.take (k + 1)) := by
  rw [List.take_succ_eq_append_getElem hk, laidL_snoc, getD_at _ hk]
theorem laid_take {n : Nat} {l : List Ev} {k : Nat} : (laidL n (l.take k)).length ≤ l.length := Nat.le_trans laidL_len (List.length_take_le' ..)
theorem D_laid {G : Nat → Prop} {W w : World} {Rs : List HP} {n : Nat} (hn : n ≤ 1000) {vl : Value} {l : List Ev} (hl : RdS W G vl l) (hS0 : Sep G W Rs w) (hl9 : l.length ≤ 1000) : Ret Try.prog 18 [.int .i64 ((n : Nat) : Int), vl] w (fun r w' => ∃ (b : Nat), r = (.pointer (some ⟨b, 0, none⟩) : Value) ∧ Sep G W ((SetO b n (laidL n l)) :: Rs) w') := by
 have hls : l.length * 96 ≤ 140737488355328 := hl.small
 refine Calls_of_WP (args := [.int .i64 ((n : Nat) : Int), vl]) Try.func18 rfl rfl ?_
 refine WP_seq ?_
 refine WP_region0 (by kernel_rfl) (fun _ => ?_)
 refine st (ov_assign (v := .pointer none) rfl ?_)
 refine st_nil ?_
 refine WP_seq ?_
 refine WP_region0 (by kernel_rfl) (fun _ => ?_)
 refine st (ov_move (v := .int .i64 ((n : Nat) : Int)) rfl ?_)
 refine st (ov_call (f := 20) (vals := [.int .i64 ((n : Nat) : Int)]) (cap := []) (show _ = (.func (.func 20) #[] #[] : Value) from rfl) rfl Try.call20 (D_NewSet (n := n) (by first | omega | (refine ⟨?_, ?_⟩ <;> omega)) hS0) ?_)
 rintro _ w2 ⟨b1, rfl, hS3⟩
 refine st (ov_assign (v := .pointer (some ⟨b1, 0, none⟩)) rfl ?_)
 refine st_nil ?_
 refine WP_seq ?_
 refine WP_seq ?_
 refine WP_region0 (by kernel_rfl) (fun _ => ?_)
 refine st (ov_move (v := .pointer (some ⟨b1, 0, none⟩)) rfl ?_)
 refine st (ov_eqlPtr (b := b1) (o := 0) Try.underlying26 rfl ?_)
 refine st_nil ?_
 refine WP_cond_f rfl ?_
 refine WP_skip ?_
 refine WP_seq ?_
 refine WP_seq ?_
 refine WP_region0 (by kernel_rfl) (fun _ => ?_)
 refine st (ov_assign (v := .int .i64 (0)) rfl ?_)
 refine st_nil ?_
 refine WP_block ?_
 refine WP_loop (fun mq σ wq => ∃ (k : Nat) (ρ : Env), mq = l.length - k ∧ σ = setAll ρ [(0, .int .i64 ((n : Nat) : Int)), (1, vl), (5, .pointer (some ⟨b1, 0, none⟩)), (6, .int .i64 ((k : Nat) : Int))] ∧ (k ≤ l.length) ∧ Sep G W ((SetO b1 n (laidL n (l.take k))) :: Rs) wq) ⟨0, _, rfl, setAll_self ⟨rfl, rfl, rfl, rfl, trivial⟩, Nat.zero_le _, hS3⟩ ?_
 rintro m5 σ6 w4 ⟨k, ρl1, rfl, rfl, hkk, hS7⟩
 refine WP_seq ?_
 refine WP_seq ?_
 refine WP_region0 (by kernel_rfl) (fun _ => ?_)
 refine st (ov_move (v := .int .i64 ((k : Nat) : Int)) rfl ?_)
 refine st (ov_move (v := vl) rfl ?_)
 refine st (ov_len (n := l.length) Try.underlying22 rfl hl.sl ?_)
 refine st (ov_lss (k := .i64) (a := ((k : Nat) : Int)) (b := ((l.length : Nat) : Int)) rfl rfl ?_)
 refine st_nil ?_
 cases hc8 : decide (((k : Nat) : Int) < ((l.length : Nat) : Int))
 ·skip
  have hc8 := of_decide_eq_false hc8
  refine WP_cond_f rfl ?_
  refine WP_exit ?_
  refine blk_exit ?_
  refine WP_seq ?_
  refine WP_region0 (by kernel_rfl) (fun _ => ?_)
  refine st (ov_move (v := .pointer (some ⟨b1, 0, none⟩)) rfl ?_)
  refine st (ov_assign (v := .pointer (some ⟨b1, 0, none⟩)) rfl ?_)
  refine st_nil ?_
  refine WP_ret ?_
  refine fin1 Try.results18 (show _ = (.pointer (some ⟨b1, 0, none⟩) : Value) from rfl) ?_
  have hk9 : k = l.length := by omega
  rw [hk9, List.take_length] at hS7
  refine ⟨b1, rfl, hS7⟩
 ·skip
  have hc8 := of_decide_eq_true hc8
  refine WP_cond_t rfl ?_
  refine WP_skip ?_
  refine WP_seq ?_
  refine WP_block ?_
  refine WP_region0 (by kernel_rfl) (fun _ => ?_)
  refine st (ov_move (v := .pointer (some ⟨b1, 0, none⟩)) rfl ?_)
  refine st (ov_move (v := vl) rfl ?_)
  refine st (ov_move (v := .int .i64 ((k : Nat) : Int)) rfl ?_)
  have hi9 : k < l.length := (by first | omega | (simp only [lens]; omega))
  refine st (ov_indexAddrN (k := 10) (i := k) Try.underlying22 Try.sizeOf36 rfl hl.sl rfl hi9 ?_)
  have hi11 : k < l.length := (by first | omega | (simp only [lens]; omega))
  obtain ⟨hce10, hde10_0, hoke10⟩ := hl.ev hi11
  rw [← getD_at default hi11] at hce10 hde10_0 hoke10
  have hsm12 : ((l.getD k default).deps).length * 8 ≤ 140737488355328 := hde10_0.small
  have hcw13 := hS7.cells hce10 (hl.foot (ne_of_lt hi11))
  refine st (ov_loadk (k := 10) Try.isAgg36 Try.sizeOf36 rfl rfl hcw13 ?_)
  refine st (ov_call (f := 21) (vals := [.pointer (some ⟨b1, 0, none⟩), .agg ((l.getD k default).cells (cellV W (sb vl) (so vl + k * 10 + 3))).toArray]) (cap := []) (show _ = (.func (.func 21) #[] #[] : Value) from rfl) rfl Try.call21 (D_Add (e := (l.getD k default)) hde10_0 hoke10 hS7 ((Nat.le_trans laid_take (by omega))) (laidL_good.len)) ?_)
  rintro _ w16 ⟨L114, rfl, hL115, hS17⟩
  refine st_nil ?_
  refine WP_region0 (by kernel_rfl) (fun _ => ?_)
  refine st (ov_move (v := .int .i64 ((k : Nat) : Int)) rfl ?_)
  have hr18 : InR ((k + 1 : Nat) : Int) := by first | omega | (simp only [lens]; omega)
  refine st (ov_add (r := ((k + 1 : Nat) : Int)) (k := .i64) (a := ((k : Nat) : Int)) (b := 1) rfl rfl (by rw [show (((k : Nat) : Int) + 1 : Int) = ((k + 1 : Nat) : Int) by first | omega | (simp only [lens]; omega)]; exact wrap_in hr18) ?_)
  refine st (ov_assign (v := .int .i64 ((k + 1 : Nat) : Int)) rfl ?_)
  refine st_nil ?_
  have hL19 : (laidL n (l.take (k + 1))) = L114 := (by rw [hL115]; exact (laid_step (by omega)).symm)
  rw [← hL19] at hS17
  exact ⟨_, by omega, k + 1, _, rfl, setAll_self ⟨rfl, rfl, rfl, rfl, trivial⟩, by omega, hS17⟩

def evA : Ev := ⟨0, 1, 1, [0, 0], 0, 0, 0, 1, 1, 4⟩
def evB : Ev := ⟨1, 1, 2, [1, 0], 0, 0, 0, 1, 1, 0⟩
theorem D_a {G : Nat → Prop} {W w : World} {Rs : List HP}  (hS0 : Sep G W Rs w) : Ret Try.prog 32 [] w (fun r w' => ∃ (v : Value), r = (.agg (evA.cells v).toArray : Value) ∧ Sep G W ((RowE (α := Int) own 3 v evA.deps) :: Rs) w') := by
 refine Calls_of_WP (args := []) Try.func32 rfl rfl ?_
 refine WP_seq ?_
 refine WP_region0 (by kernel_rfl) (fun _ => ?_)
 refine st (ov_alloc Try.zeroValue36 ?_)
 intro w3 b2 hn1
 have hS4 : Sep G W ((Blk b2 #[.int .i64 (0), .int .i64 (0), .int .i64 (0), (.slice none 0 0), .int .i64 (0), .int .i64 (0), .int .i64 (0), .int .i64 (0), .int .i64 (0), .int .i64 (0)] 36) :: Rs) w3 := hS0.new hn1
 refine st_nil ?_
 refine WP_seq ?_
 refine WP_region0 (by kernel_rfl) (fun _ => ?_)
 refine st (ov_build (parts' := [(0, .int .i64 (0)), (1, .int .i64 (1))]) (v := .agg #[.int .i64 (0), .int .i64 (1)]) rfl (by simp [Instr.build, Instr.fill, go_sem, Ev.cells]) ?_)
 refine st (ov_buildSlice (k := 1) (parts' := [(0, .int .i64 (0)), (1, .int .i64 (0))]) (c := #[.int .i64 (0), .int .i64 (0)]) Try.underlying34 Try.sizeOf3 Try.zeroValue3 (by decide) rfl (by kernel_rfl) ?_)
 intro w7 b6 hn5
 have hS8 : Sep G W ((Blk b6 #[.int .i64 (0), .int .i64 (0)] 3) :: (Blk b2 #[.int .i64 (0), .int .i64 (0), .int .i64 (0), (.slice none 0 0), .int .i64 (0), .int .i64 (0), .int .i64 (0), .int .i64 (0), .int .i64 (0), .int .i64 (0)] 36) :: Rs) w7 := hS4.new hn5
 have hS9 : Sep G W ((RowE (α := Int) own 3 (.slice (some ⟨b6, 0, none⟩) 2 2) [0, 0]) :: (Blk b2 #[.int .i64 (0), .int .i64 (0), .int .i64 (0), (.slice none 0 0), .int .i64 (0), .int .i64 (0), .int .i64 (0), .int .i64 (0), .int .i64 (0), .int .i64 (0)] 36) :: Rs) w7 := Sep.blkRow (src := own) (l := [0, 0]) (css := [[.int .i64 (0)], [.int .i64 (0)]]) hS8 rfl ⟨fun _ _ => ⟨rfl, (by decide)⟩, fun _ _ => ⟨rfl, (by decide)⟩, trivial⟩ (by first | decide | (simp only [List.length_cons, List.length_nil]; decide))
 have hr10 := hS9.row (i := 0) rfl
 have hr10s : [0, 0].length * 8 ≤ 140737488355328 := hr10.2
 have ok11 : Ev.Ok (⟨0, 1, 1, [0, 0], 0, 0, 0, 1, 1, 4⟩ : Ev) := ⟨(show InR (0) from (by decide)), (show InR (1) from (by decide)), (show InR (1) from (by decide)), (show InR (0) from (by decide)), (show InR (0) from (by decide)), (show InR (0) from (by decide)), (show InR (1) from (by decide)), (show InR (1) from (by decide)), (show InR (4) from (by decide))⟩
 refine st (ov_build (parts' := [(0, .agg #[.int .i64 (0), .int .i64 (1)]), (1, .int .i64 (1)), (2, (.slice (some ⟨b6, 0, none⟩) 2 2)), (6, .int .i64 (1)), (7, .int .i64 (1)), (8, .int .i64 (4))]) (v := .agg ((⟨0, 1, 1, [0, 0], 0, 0, 0, 1, 1, 4⟩ : Ev).cells (.slice (some ⟨b6, 0, none⟩) 2 2)).toArray) rfl (by simp [Instr.build, Instr.fill, go_sem, Ev.cells]) ?_)
 refine stn (ov_store (v := .agg ((⟨0, 1, 1, [0, 0], 0, 0, 0, 1, 1, 4⟩ : Ev).cells (.slice (some ⟨b6, 0, none⟩) 2 2)).toArray) (c' := ((⟨0, 1, 1, [0, 0], 0, 0, 0, 1, 1, 4⟩ : Ev).cells (.slice (some ⟨b6, 0, none⟩) 2 2)).toArray) Try.sizeOf36 rfl rfl (hS9.blk (i := 1) rfl) (all1 ⟨rfl, rfl, rfl, rfl, rfl, rfl, rfl, rfl, rfl, rfl, trivial⟩) (Nat.le_of_ble_eq_true rfl) rfl ?_)
 intro w12 hp13
 have hS14 : Sep G W ((RowE (α := Int) own 3 (.slice (some ⟨b6, 0, none⟩) 2 2) [0, 0]) :: (Blk b2 ((⟨0, 1, 1, [0, 0], 0, 0, 0, 1, 1, 4⟩ : Ev).cells (.slice (some ⟨b6, 0, none⟩) 2 2)).toArray 36) :: Rs) w12 := hS9.put (i := 1) rfl hp13
 refine st_nil ?_
 refine WP_ret ?_
 refine finc (b := b2) Try.results32 Try.isAgg36 Try.sizeOf36 rfl rfl (CellsAt.all (hS14.blk (i := 1) rfl)) ?_
 have hS15 : Sep G W ((RowE (α := Int) own 3 (.slice (some ⟨b6, 0, none⟩) 2 2) [0, 0]) :: Rs) w12 := hS14.sel 2 [0] (Nat.le_add_left _ _) rfl rfl
 refine ⟨(.slice (some ⟨b6, 0, none⟩) 2 2), rfl, hS15⟩

theorem D_b {G : Nat → Prop} {W w : World} {Rs : List HP}  (hS0 : Sep G W Rs w) : Ret Try.prog 33 [] w (fun r w' => ∃ (v : Value), r = (.agg (evB.cells v).toArray : Value) ∧ Sep G W ((RowE (α := Int) own 3 v evB.deps) :: Rs) w') := by
 refine Calls_of_WP (args := []) Try.func33 rfl rfl ?_
 refine WP_seq ?_
 refine WP_region0 (by kernel_rfl) (fun _ => ?_)
 refine st (ov_alloc Try.zeroValue36 ?_)
 intro w3 b2 hn1
 have hS4 : Sep G W ((Blk b2 #[.int .i64 (0), .int .i64 (0), .int .i64 (0), (.slice none 0 0), .int .i64 (0), .int .i64 (0), .int .i64 (0), .int .i64 (0), .int .i64 (0), .int .i64 (0)] 36) :: Rs) w3 := hS0.new hn1
 refine st_nil ?_
 refine WP_seq ?_
 refine WP_region0 (by kernel_rfl) (fun _ => ?_)
 refine st (ov_build (parts' := [(0, .int .i64 (1)), (1, .int .i64 (1))]) (v := .agg #[.int .i64 (1), .int .i64 (1)]) rfl (by simp [Instr.build, Instr.fill, go_sem, Ev.cells]) ?_)
 refine st (ov_buildSlice (k := 1) (parts' := [(0, .int .i64 (1)), (1, .int .i64 (0))]) (c := #[.int .i64 (1), .int .i64 (0)]) Try.underlying34 Try.sizeOf3 Try.zeroValue3 (by decide) rfl (by kernel_rfl) ?_)
 intro w7 b6 hn5
 have hS8 : Sep G W ((Blk b6 #[.int .i64 (1), .int .i64 (0)] 3) :: (Blk b2 #[.int .i64 (0), .int .i64 (0), .int .i64 (0), (.slice none 0 0), .int .i64 (0), .int .i64 (0), .int .i64 (0), .int .i64 (0), .int .i64 (0), .int .i64 (0)] 36) :: Rs) w7 := hS4.new hn5
 have hS9 : Sep G W ((RowE (α := Int) own 3 (.slice (some ⟨b6, 0, none⟩) 2 2) [1, 0]) :: (Blk b2 #[.int .i64 (0), .int .i64 (0), .int .i64 (0), (.slice none 0 0), .int .i64 (0), .int .i64 (0), .int .i64 (0), .int .i64 (0), .int .i64 (0), .int .i64 (0)] 36) :: Rs) w7 := Sep.blkRow (src := own) (l := [1, 0]) (css := [[.int .i64 (1)], [.int .i64 (0)]]) hS8 rfl ⟨fun _ _ => ⟨rfl, (by decide)⟩, fun _ _ => ⟨rfl, (by decide)⟩, trivial⟩ (by first | decide | (simp only [List.length_cons, List.length_nil]; decide))
 have hr10 := hS9.row (i := 0) rfl
 have hr10s : [1, 0].length * 8 ≤ 140737488355328 := hr10.2
 have ok11 : Ev.Ok (⟨1, 1, 2, [1, 0], 0, 0, 0, 1, 1, 0⟩ : Ev) := ⟨(show InR (1) from (by decide)), (show InR (1) from (by decide)), (show InR (2) from (by decide)), (show InR (0) from (by decide)), (show InR (0) from (by decide)), (show InR (0) from (by decide)), (show InR (1) from (by decide)), (show InR (1) from (by decide)), (show InR (0) from (by decide))⟩
 refine st (ov_build (parts' := [(0, .agg #[.int .i64 (1), .int .i64 (1)]), (1, .int .i64 (2)), (2, (.slice (some ⟨b6, 0, none⟩) 2 2)), (6, .int .i64 (1)), (7, .int .i64 (1))]) (v := .agg ((⟨1, 1, 2, [1, 0], 0, 0, 0, 1, 1, 0⟩ : Ev).cells (.slice (some ⟨b6, 0, none⟩) 2 2)).toArray) rfl (by simp [Instr.build, Instr.fill, go_sem, Ev.cells]) ?_)
 refine stn (ov_store (v := .agg ((⟨1, 1, 2, [1, 0], 0, 0, 0, 1, 1, 0⟩ : Ev).cells (.slice (some ⟨b6, 0, none⟩) 2 2)).toArray) (c' := ((⟨1, 1, 2, [1, 0], 0, 0, 0, 1, 1, 0⟩ : Ev).cells (.slice (some ⟨b6, 0, none⟩) 2 2)).toArray) Try.sizeOf36 rfl rfl (hS9.blk (i := 1) rfl) (all1 ⟨rfl, rfl, rfl, rfl, rfl, rfl, rfl, rfl, rfl, rfl, trivial⟩) (Nat.le_of_ble_eq_true rfl) rfl ?_)
 intro w12 hp13
 have hS14 : Sep G W ((RowE (α := Int) own 3 (.slice (some ⟨b6, 0, none⟩) 2 2) [1, 0]) :: (Blk b2 ((⟨1, 1, 2, [1, 0], 0, 0, 0, 1, 1, 0⟩ : Ev).cells (.slice (some ⟨b6, 0, none⟩) 2 2)).toArray 36) :: Rs) w12 := hS9.put (i := 1) rfl hp13
 refine st_nil ?_
 refine WP_ret ?_
 refine finc (b := b2) Try.results33 Try.isAgg36 Try.sizeOf36 rfl rfl (CellsAt.all (hS14.blk (i := 1) rfl)) ?_
 have hS15 : Sep G W ((RowE (α := Int) own 3 (.slice (some ⟨b6, 0, none⟩) 2 2) [1, 0]) :: Rs) w12 := hS14.sel 2 [0] (Nat.le_add_left _ _) rfl rfl
 refine ⟨(.slice (some ⟨b6, 0, none⟩) 2 2), rfl, hS15⟩

end Go.Proofs.Ytgjgmojjeehieaa
