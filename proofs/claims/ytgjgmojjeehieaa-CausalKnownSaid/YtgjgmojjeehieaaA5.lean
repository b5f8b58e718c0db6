/- Steps of the proofs of this seat: part A5. -/
import Derived.Test.YtgjgmojjeehieaaA4
set_option linter.unusedSimpArgs false
set_option linter.unusedVariables false
set_option maxRecDepth 8000
set_option maxHeartbeats 4000000
namespace Go.Proofs.Ytgjgmojjeehieaa
open Go.Proofs Go.RowKit

theorem D_Pick {G : Nat → Prop} {W w : World} {Rs : List HP} {x : Int} (hx : InR x) {n : Nat} (hn : 1 ≤ n ∧ n ≤ 281474976710656) (hS0 : Sep G W Rs w) : Ret Try.prog 17 [.int .i64 (x), .int .i64 ((n : Nat) : Int)] w (fun r w' => ∃ (q : Nat), r = (.int .i64 ((q : Nat) : Int) : Value) ∧ (q < n) ∧ Sep G W Rs w') := by
 refine Calls_of_WP (args := [.int .i64 (x), .int .i64 ((n : Nat) : Int)]) Try.func17 rfl rfl ?_
 refine WP_seq ?_
 refine WP_region0 (by kernel_rfl) (fun _ => ?_)
 refine st (ov_assign (v := .int .i64 (0)) rfl ?_)
 refine st_nil ?_
 refine WP_seq ?_
 refine WP_seq ?_
 refine WP_region0 (by kernel_rfl) (fun _ => ?_)
 refine st (ov_move (v := .int .i64 ((n : Nat) : Int)) rfl ?_)
 refine st (ov_lss (k := .i64) (a := ((n : Nat) : Int)) (b := 1) rfl rfl ?_)
 refine st_nil ?_
 cases hc1 : decide (((n : Nat) : Int) < 1)
 ·skip
  have hc1 := of_decide_eq_false hc1
  refine WP_cond_f rfl ?_
  refine WP_skip ?_
  refine WP_seq ?_
  refine WP_region0 (by kernel_rfl) (fun _ => ?_)
  refine st (ov_move (v := .int .i64 (x)) rfl ?_)
  refine st (ov_move (v := .int .i64 ((n : Nat) : Int)) rfl ?_)
  have h03 : (0 : Int) < ((n : Nat) : Int) := by omega
  have hr4 := Int.tmod_lt_of_pos x h03; have hr5 := Int.lt_tmod_of_pos x h03
  obtain ⟨rm2, hr6⟩ : ∃ z, Int.tmod x ((n : Nat) : Int) = z := ⟨_, rfl⟩; rw [hr6] at hr4 hr5
  refine st (ov_rem (r := rm2) rfl rfl h03 hr6 ?_)
  refine st (ov_assign (v := .int .i64 (rm2)) rfl ?_)
  refine st_nil ?_
  refine WP_seq ?_
  refine WP_seq ?_
  refine WP_region0 (by kernel_rfl) (fun _ => ?_)
  refine st (ov_move (v := .int .i64 (rm2)) rfl ?_)
  refine st (ov_lss (k := .i64) (a := rm2) (b := 0) rfl rfl ?_)
  refine st_nil ?_
  cases hc7 : decide (rm2 < 0)
  ·skip
   have hc7 := of_decide_eq_false hc7
   refine WP_cond_f rfl ?_
   refine WP_skip ?_
   refine WP_seq ?_
   refine WP_region0 (by kernel_rfl) (fun _ => ?_)
   refine st (ov_move (v := .int .i64 (rm2)) rfl ?_)
   refine st (ov_assign (v := .int .i64 (rm2)) rfl ?_)
   refine st_nil ?_
   refine WP_ret ?_
   refine fin1 Try.results17 (show _ = (.int .i64 (rm2) : Value) from rfl) ?_
   refine ⟨(rm2).toNat, ?_, ?_, hS0⟩
   · rw [Int.toNat_of_nonneg (by omega)]
   · omega
  ·skip
   have hc7 := of_decide_eq_true hc7
   refine WP_cond_t rfl ?_
   refine WP_region0 (by kernel_rfl) (fun _ => ?_)
   refine st (ov_move (v := .int .i64 (rm2)) rfl ?_)
   refine st (ov_move (v := .int .i64 ((n : Nat) : Int)) rfl ?_)
   have hr8 : InR (rm2 + ((n : Nat) : Int)) := by omega
   refine st (ov_add (r := rm2 + ((n : Nat) : Int)) (k := .i64) (a := rm2) (b := ((n : Nat) : Int)) rfl rfl (wrap_in hr8) ?_)
   refine st (ov_assign (v := .int .i64 (rm2 + ((n : Nat) : Int))) rfl ?_)
   refine st_nil ?_
   refine WP_seq ?_
   refine WP_region0 (by kernel_rfl) (fun _ => ?_)
   refine st (ov_move (v := .int .i64 (rm2 + ((n : Nat) : Int))) rfl ?_)
   refine st (ov_assign (v := .int .i64 (rm2 + ((n : Nat) : Int))) rfl ?_)
   refine st_nil ?_
   refine WP_ret ?_
   refine fin1 Try.results17 (show _ = (.int .i64 (rm2 + ((n : Nat) : Int)) : Value) from rfl) ?_
   refine ⟨(rm2 + ((n : Nat) : Int)).toNat, ?_, ?_, hS0⟩
   · rw [Int.toNat_of_nonneg (by omega)]
   · omega
 ·skip
  have hc1 := of_decide_eq_true hc1
  refine WP_cond_t rfl ?_
  refine WP_seq ?_
  refine WP_region0 (by kernel_rfl) (fun _ => ?_)
  refine st (ov_assign (v := .int .i64 (0)) rfl ?_)
  refine st_nil ?_
  refine WP_ret ?_
  refine fin1 Try.results17 (show _ = (.int .i64 (0) : Value) from rfl) ?_
  refine ⟨0, ?_, ?_, hS0⟩
  · exfalso; omega
  · omega

theorem ext_getD {α : Type} {a b : List α} {d : α} (hl : a.length = b.length) (h : ∀ i, i < a.length → a.getD i d = b.getD i d) : a = b := by
  refine List.ext_getElem hl (fun i h1 h2 => ?_)
  have := h i h1
  rwa [getD_at _ h1, getD_at _ h2] at this
theorem D_CopyInts {G : Nat → Prop} {W w : World} {Rs : List HP} {vl : Value} {l : List Int} (hl : RdS W G vl l) (hS0 : Sep G W Rs w) : Ret Try.prog 62 [vl] w (fun r w' => ∃ (v : Value), r = (v : Value) ∧ Sep G W ((RowE (α := Int) own 3 v l) :: Rs) w') := by
 have hls : l.length * 8 ≤ 140737488355328 := hl.small
 refine Calls_of_WP (args := [vl]) Try.func62 rfl rfl ?_
 refine WP_seq ?_
 refine WP_region0 (by kernel_rfl) (fun _ => ?_)
 refine st (ov_assign (v := (.slice none 0 0)) rfl ?_)
 refine st_nil ?_
 refine WP_seq ?_
 refine WP_region0 (by kernel_rfl) (fun _ => ?_)
 refine st (ov_assign (v := (.slice none 0 0)) rfl ?_)
 refine st_nil ?_
 refine WP_seq ?_
 refine WP_seq ?_
 refine WP_region0 (by kernel_rfl) (fun _ => ?_)
 refine st (ov_assign (v := .int .i64 (0)) rfl ?_)
 refine st_nil ?_
 refine WP_block ?_
 have hS1 : Sep G W ((RowE (α := Int) own 3 (.slice none 0 0) ([] : List Int)) :: Rs) w := hS0.rowNil own 3
 refine WP_loop (fun mq σ wq => ∃ (k : Nat) (vo : Value) (ρ : Env), mq = l.length - k ∧ σ = setAll ρ [(0, vl), (4, .int .i64 ((k : Nat) : Int)), (3, vo)] ∧ (k ≤ l.length) ∧ Sep G W ((RowE (α := Int) own 3 vo (l.take k)) :: Rs) wq) ⟨0, (.slice none 0 0), _, rfl, setAll_self ⟨rfl, rfl, rfl, trivial⟩, Nat.zero_le _, hS1⟩ ?_
 rintro m3 σ4 w2 ⟨k, vo, ρl1, rfl, rfl, hkk, hS5⟩
 have hr6 := hS5.row (i := 0) rfl
 have hr6s : (l.take k).length * 8 ≤ 140737488355328 := hr6.2
 refine WP_seq ?_
 refine WP_seq ?_
 refine WP_region0 (by kernel_rfl) (fun _ => ?_)
 refine st (ov_move (v := .int .i64 ((k : Nat) : Int)) rfl ?_)
 refine st (ov_move (v := vl) rfl ?_)
 refine st (ov_len (n := l.length) Try.underlying34 rfl hl.sl ?_)
 refine st (ov_lss (k := .i64) (a := ((k : Nat) : Int)) (b := ((l.length : Nat) : Int)) rfl rfl ?_)
 refine st_nil ?_
 cases hc7 : decide (((k : Nat) : Int) < ((l.length : Nat) : Int))
 ·skip
  have hc7 := of_decide_eq_false hc7
  refine WP_cond_f rfl ?_
  refine WP_exit ?_
  refine blk_exit ?_
  refine WP_seq ?_
  refine WP_region0 (by kernel_rfl) (fun _ => ?_)
  refine st (ov_move (v := vo) rfl ?_)
  refine st (ov_assign (v := vo) rfl ?_)
  refine st_nil ?_
  refine WP_ret ?_
  refine fin1 Try.results62 (show _ = (vo : Value) from rfl) ?_
  have hk9 : k = l.length := by omega
  rw [hk9, List.take_length] at hS5
  refine ⟨vo, rfl, hS5⟩
 ·skip
  have hc7 := of_decide_eq_true hc7
  refine WP_cond_t rfl ?_
  refine WP_skip ?_
  refine WP_seq ?_
  refine WP_block ?_
  refine WP_region0 (by kernel_rfl) (fun _ => ?_)
  refine st (ov_move (v := vo) rfl ?_)
  refine st (ov_move (v := vl) rfl ?_)
  refine st (ov_move (v := .int .i64 ((k : Nat) : Int)) rfl ?_)
  have hi8 : k < l.length := (by first | omega | (simp only [lens]; omega))
  refine st (ov_indexAddrN (k := 1) (i := k) Try.underlying34 Try.sizeOf3 rfl hl.sl rfl hi8 ?_)
  have hi10 : k < l.length := (by first | omega | (simp only [lens]; omega))
  obtain ⟨hce9, hxe9⟩ := hl.int hi10
  rw [← getD_at 0 hi10] at hce9 hxe9
  have hcw11 := hS5.cells hce9 (hl.foot (ne_of_lt hi10))
  refine st (ov_load1 (v := .int .i64 ((l.getD k 0))) Try.isAgg3 rfl (hcw11.get (j := 0) rfl) ?_)
  refine st (ov_buildSlice (k := 1) (parts' := [(0, .int .i64 ((l.getD k 0)))]) (c := #[.int .i64 ((l.getD k 0))]) Try.underlying34 Try.sizeOf3 Try.zeroValue3 (by decide) rfl (by kernel_rfl) ?_)
  intro w14 b13 hn12
  have hS15 : Sep G W ((Blk b13 #[.int .i64 ((l.getD k 0))] 3) :: (RowE (α := Int) own 3 vo (l.take k)) :: Rs) w14 := hS5.new hn12
  have hbk19 := hS15.blk (i := 0) rfl
  have hS20 : Sep G W ((RowE (α := Int) own 3 vo (l.take k)) :: Rs) w14 := hS15.sel 2 [1] (Nat.le_add_left _ _) rfl rfl
  have hS21 : Sep G W ((RowE (α := Int) own 3 vo (l.take k)) :: Emp :: Rs) w14 := hS20.emp1
  refine st (ov_append1S (src := own) (bytes := 8) (x1 := (l.getD k 0)) hS21 el34 rfl rfl hbk19 (fun _ _ _ => (show _ from ⟨rfl, hxe9⟩)) (by first | omega | (simp only [List.length_append, List.length_cons, List.length_nil, List.length_take, List.length_drop]; omega)) rfl ?_)
  intro v17 w16 hS18
  have hr22 := hS18.row (i := 0) rfl
  have hr22s : ((l.take k) ++ [(l.getD k 0)]).length * 8 ≤ 140737488355328 := hr22.2
  refine st (ov_assign (v := v17) rfl ?_)
  refine st_nil ?_
  refine WP_region0 (by kernel_rfl) (fun _ => ?_)
  refine st (ov_move (v := .int .i64 ((k : Nat) : Int)) rfl ?_)
  have hr23 : InR ((k + 1 : Nat) : Int) := by first | omega | (simp only [lens]; omega)
  refine st (ov_add (r := ((k + 1 : Nat) : Int)) (k := .i64) (a := ((k : Nat) : Int)) (b := 1) rfl rfl (by rw [show (((k : Nat) : Int) + 1 : Int) = ((k + 1 : Nat) : Int) by first | omega | (simp only [lens]; omega)]; exact wrap_in hr23) ?_)
  refine st (ov_assign (v := .int .i64 ((k + 1 : Nat) : Int)) rfl ?_)
  refine st_nil ?_
  have hL24 : (l.take (k + 1)) = (l.take k) ++ [(l.getD k 0)] := (List.take_getD (by omega))
  rw [← hL24] at hS18
  exact ⟨_, by omega, k + 1, v17, _, rfl, setAll_self ⟨rfl, rfl, rfl, trivial⟩, by omega, hS18⟩

theorem D_SameInts {G : Nat → Prop} {W w : World} {Rs : List HP} {va : Value} {a : List Int} (ha : RdS W G va a) {vb : Value} {b : List Int} (hb : RdS W G vb b) (hS0 : Sep G W Rs w) : Ret Try.prog 27 [va, vb] w (fun r w' => r = (.bool (decide (a = b)) : Value) ∧ Sep G W Rs w') := by
 have has : a.length * 8 ≤ 140737488355328 := ha.small
 have hbs : b.length * 8 ≤ 140737488355328 := hb.small
 refine Calls_of_WP (args := [va, vb]) Try.func27 rfl rfl ?_
 refine WP_seq ?_
 refine WP_region0 (by kernel_rfl) (fun _ => ?_)
 refine st (ov_assign (v := .bool false) rfl ?_)
 refine st_nil ?_
 refine WP_seq ?_
 refine WP_seq ?_
 refine WP_region0 (by kernel_rfl) (fun _ => ?_)
 refine st (ov_move (v := va) rfl ?_)
 refine st (ov_len (n := a.length) Try.underlying34 rfl ha.sl ?_)
 refine st (ov_move (v := vb) rfl ?_)
 refine st (ov_len (n := b.length) Try.underlying34 rfl hb.sl ?_)
 refine st (ov_neq (k := .i64) (a := ((a.length : Nat) : Int)) (b := ((b.length : Nat) : Int)) rfl rfl ?_)
 refine st_nil ?_
 cases hc1 : !decide (((a.length : Nat) : Int) = ((b.length : Nat) : Int))
 ·skip
  have hc1 := ndec_false hc1
  refine WP_cond_f rfl ?_
  refine WP_skip ?_
  refine WP_seq ?_
  refine WP_seq ?_
  refine WP_region0 (by kernel_rfl) (fun _ => ?_)
  refine st (ov_assign (v := .int .i64 (0)) rfl ?_)
  refine st_nil ?_
  refine WP_block ?_
  refine WP_loop (fun mq σ wq => ∃ (k : Nat) (ρ : Env), mq = a.length - k ∧ σ = setAll ρ [(0, va), (1, vb), (5, .int .i64 ((k : Nat) : Int))] ∧ (k ≤ a.length) ∧ (∀ i, i < k → a.getD i 0 = b.getD i 0) ∧ Sep G W Rs wq) ⟨0, _, rfl, setAll_self ⟨rfl, rfl, rfl, trivial⟩, Nat.zero_le _, (fun i h => absurd h (Nat.not_lt_zero i)), hS0⟩ ?_
  rintro m3 σ4 w2 ⟨k, ρl1, rfl, rfl, hkk, hm, hS5⟩
  refine WP_seq ?_
  refine WP_seq ?_
  refine WP_region0 (by kernel_rfl) (fun _ => ?_)
  refine st (ov_move (v := .int .i64 ((k : Nat) : Int)) rfl ?_)
  refine st (ov_move (v := va) rfl ?_)
  refine st (ov_len (n := a.length) Try.underlying34 rfl ha.sl ?_)
  refine st (ov_lss (k := .i64) (a := ((k : Nat) : Int)) (b := ((a.length : Nat) : Int)) rfl rfl ?_)
  refine st_nil ?_
  cases hc6 : decide (((k : Nat) : Int) < ((a.length : Nat) : Int))
  ·skip
   have hc6 := of_decide_eq_false hc6
   refine WP_cond_f rfl ?_
   refine WP_exit ?_
   refine blk_exit ?_
   refine WP_seq ?_
   refine WP_region0 (by kernel_rfl) (fun _ => ?_)
   refine st (ov_assign (v := .bool true) rfl ?_)
   refine st_nil ?_
   refine WP_ret ?_
   refine fin1 Try.results27 (show _ = (.bool true : Value) from rfl) ?_
   refine ⟨?_, hS5⟩
   rw [decide_eq_true (ext_getD (by omega) (fun i hi => hm i (by omega)))]
  ·skip
   have hc6 := of_decide_eq_true hc6
   refine WP_cond_t rfl ?_
   refine WP_skip ?_
   refine WP_seq ?_
   refine WP_block ?_
   refine WP_seq ?_
   refine WP_draw4 (WF [fun vals wq => Sep G W Rs wq]) (AF [Vl 0 (va), Vl 1 (.int .i64 ((k : Nat) : Int)), Vl 2 (.pointer (some ⟨sb va, so va + k * 1, none⟩)), Vl 3 (.int .i64 ((a.getD k 0))), Vl 4 (vb), Vl 5 (.int .i64 ((k : Nat) : Int)), Vl 6 (.pointer (some ⟨sb vb, so vb + k * 1, none⟩)), Vl 7 (.int .i64 ((b.getD k 0))), Vl 8 (.bool (!decide ((a.getD k 0) = (b.getD k 0))))]) [[], [], [0, 1], [0, 1, 2], [], [], [4, 5], [4, 5, 6], [0, 1, 2, 3, 4, 5, 6, 7]] [] [(0, 0), (0, 0), (0, 0), (0, 0), (0, 0), (0, 0), (0, 0), (0, 0), (0, 0)] (by kernel_rfl) (by kernel_rfl) (by kernel_rfl) rfl (by kernel_rfl) (by kernel_rfl) (fun _ h1 h2 h3 h4 _ => hS5.same h1 h2 h3 h4) ?_ (AF_loc ⟨dA, dA, dA, dA, dA, dA, dA, dA, dA, trivial⟩) ⟨?_, ?_, ?_, ?_, ?_, ?_, ?_, ?_, ?_, trivial⟩ ?_
   ·intro k vals vals' w hv h
    match k, h with
    | 0, h => exact h
    | _ + 1, _ => trivial
   ·intro k82 vals w83 h86 h87 hW85 hA84
    refine obl rfl ?_
    exact ov_move (v := va) rfl (fun vals' hv _ => ⟨rfl, hv⟩)
   ·intro k88 vals w89 h92 h93 hW91 hA90
    refine obl rfl ?_
    exact ov_move (v := .int .i64 ((k : Nat) : Int)) rfl (fun vals' hv _ => ⟨rfl, hv⟩)
   ·intro k94 vals w95 h98 h99 hW97 hA96
    obtain rfl : k94 = 0 := Nat.le_antisymm h99 h98
    have hS100 : Sep G W Rs w95 := hW97
    have e101 := hA96 0 (by decide)
    have e102 := hA96 1 (by decide)
    refine obl rfl ?_
    have hi103 : k < a.length := (by first | omega | (simp only [lens]; omega))
    exact ov_indexAddrN (k := 1) (i := k) Try.underlying34 Try.sizeOf3 e101 ha.sl e102 hi103 (fun vals' hv _ => ⟨rfl, hv⟩)
   ·intro k104 vals w105 h108 h109 hW107 hA106
    obtain rfl : k104 = 0 := Nat.le_antisymm h109 h108
    have hS110 : Sep G W Rs w105 := hW107
    have e111 := hA106 2 (by decide)
    refine obl rfl ?_
    have hi113 : k < a.length := (by first | omega | (simp only [lens]; omega))
    obtain ⟨hce112, hxe112⟩ := ha.int hi113
    rw [← getD_at 0 hi113] at hce112 hxe112
    have hcw114 := hS110.cells hce112 (ha.foot (ne_of_lt hi113))
    exact ov_load1 (v := .int .i64 ((a.getD k 0))) Try.isAgg3 e111 (hcw114.get (j := 0) rfl) (fun vals' hv _ => ⟨rfl, hv⟩)
   ·intro k115 vals w116 h119 h120 hW118 hA117
    refine obl rfl ?_
    exact ov_move (v := vb) rfl (fun vals' hv _ => ⟨rfl, hv⟩)
   ·intro k121 vals w122 h125 h126 hW124 hA123
    refine obl rfl ?_
    exact ov_move (v := .int .i64 ((k : Nat) : Int)) rfl (fun vals' hv _ => ⟨rfl, hv⟩)
   ·intro k127 vals w128 h131 h132 hW130 hA129
    obtain rfl : k127 = 0 := Nat.le_antisymm h132 h131
    have hS133 : Sep G W Rs w128 := hW130
    have e134 := hA129 4 (by decide)
    have e135 := hA129 5 (by decide)
    refine obl rfl ?_
    have hi136 : k < b.length := (by first | omega | (simp only [lens]; omega))
    exact ov_indexAddrN (k := 1) (i := k) Try.underlying34 Try.sizeOf3 e134 hb.sl e135 hi136 (fun vals' hv _ => ⟨rfl, hv⟩)
   ·intro k137 vals w138 h141 h142 hW140 hA139
    obtain rfl : k137 = 0 := Nat.le_antisymm h142 h141
    have hS143 : Sep G W Rs w138 := hW140
    have e144 := hA139 6 (by decide)
    refine obl rfl ?_
    have hi146 : k < b.length := (by first | omega | (simp only [lens]; omega))
    obtain ⟨hce145, hxe145⟩ := hb.int hi146
    rw [← getD_at 0 hi146] at hce145 hxe145
    have hcw147 := hS143.cells hce145 (hb.foot (ne_of_lt hi146))
    exact ov_load1 (v := .int .i64 ((b.getD k 0))) Try.isAgg3 e144 (hcw147.get (j := 0) rfl) (fun vals' hv _ => ⟨rfl, hv⟩)
   ·intro k148 vals w149 h152 h153 hW151 hA150
    obtain rfl : k148 = 0 := Nat.le_antisymm h153 h152
    have hS154 : Sep G W Rs w149 := hW151
    have e155 := hA150 3 (by decide)
    have e156 := hA150 7 (by decide)
    refine obl rfl ?_
    exact ov_neq (k := .i64) (a := (a.getD k 0)) (b := (b.getD k 0)) e155 e156 (fun vals' hv _ => ⟨rfl, hv⟩)
   intro vals w157 hW158 hA159
   have hS160 : Sep G W Rs w157 := hW158
   have e161 := hA159 8 (by decide)
   refine st_env (kv := [(0, va), (1, vb), (5, .int .i64 ((k : Nat) : Int)), (11, .int .i64 ((k : Nat) : Int)), (12, va), (13, .int .i64 ((a.length : Nat) : Int)), (14, .bool true), (25, .bool (!decide ((a.getD k 0) = (b.getD k 0))))]) ⟨rfl, rfl, rfl, rfl, rfl, rfl, rfl, (by exact e161), trivial⟩ (fun ρw157 => ?_)
   refine st_nil ?_
   cases hc162 : !decide ((a.getD k 0) = (b.getD k 0))
   ·skip
    have hc162 := ndec_false hc162
    refine WP_cond_f rfl ?_
    refine WP_skip ?_
    refine WP_region0 (by kernel_rfl) (fun _ => ?_)
    refine st (ov_move (v := .int .i64 ((k : Nat) : Int)) rfl ?_)
    have hr163 : InR ((k + 1 : Nat) : Int) := by first | omega | (simp only [lens]; omega)
    refine st (ov_add (r := ((k + 1 : Nat) : Int)) (k := .i64) (a := ((k : Nat) : Int)) (b := 1) rfl rfl (by rw [show (((k : Nat) : Int) + 1 : Int) = ((k + 1 : Nat) : Int) by first | omega | (simp only [lens]; omega)]; exact wrap_in hr163) ?_)
    refine st (ov_assign (v := .int .i64 ((k + 1 : Nat) : Int)) rfl ?_)
    refine st_nil ?_
    exact ⟨_, by omega, k + 1, _, rfl, setAll_self ⟨rfl, rfl, rfl, trivial⟩, by omega, (all_step hm (by omega)), hS160⟩
   ·skip
    have hc162 := ndec_true hc162
    refine WP_cond_t rfl ?_
    refine WP_seq ?_
    refine WP_region0 (by kernel_rfl) (fun _ => ?_)
    refine st (ov_assign (v := .bool false) rfl ?_)
    refine st_nil ?_
    refine WP_ret ?_
    refine fin1 Try.results27 (show _ = (.bool false : Value) from rfl) ?_
    refine ⟨?_, hS160⟩
    rw [decide_eq_false (fun e => by subst e; omega)]
 ·skip
  have hc1 := ndec_true hc1
  refine WP_cond_t rfl ?_
  refine WP_seq ?_
  refine WP_region0 (by kernel_rfl) (fun _ => ?_)
  refine st (ov_assign (v := .bool false) rfl ?_)
  refine st_nil ?_
  refine WP_ret ?_
  refine fin1 Try.results27 (show _ = (.bool false : Value) from rfl) ?_
  refine ⟨?_, hS0⟩
  rw [decide_eq_false (fun e => by subst e; omega)]

theorem eqS33 {x y : Operand} {a0 a1 b0 b1 : Int} : ∀ w, (do eqGuard .eql 33 x y (.agg #[.int .i64 a0, .int .i64 a1]) (.agg #[.int .i64 b0, .int .i64 b1]); binOp .eql 33 (.agg #[.int .i64 a0, .int .i64 a1]) (.agg #[.int .i64 b0, .int .i64 b1]) : Sem Value).run Try.prog w = .ok (.bool (decide (a0 = b0 ∧ a1 = b1))) w := by
  intro w
  have h : ∀ w, (Op.equal 33 (.agg #[.int .i64 a0, .int .i64 a1]) (.agg #[.int .i64 b0, .int .i64 b1])).run Try.prog w = .ok (decide (a0 = b0 ∧ a1 = b1)) w := by
    intro w
    unfold Op.equal Op.maxDepth; rw [decI2]; simp [go_sem]; (try (by_cases h1 : a0 = b0 <;> by_cases h2 : a1 = b1 <;> simp [h1, h2]))
  simp [eqGuard, binOp, h, go_sem]
theorem eqS33n {x y : Operand} {a0 a1 b0 b1 : Int} : ∀ w, (do eqGuard .neq 33 x y (.agg #[.int .i64 a0, .int .i64 a1]) (.agg #[.int .i64 b0, .int .i64 b1]); binOp .neq 33 (.agg #[.int .i64 a0, .int .i64 a1]) (.agg #[.int .i64 b0, .int .i64 b1]) : Sem Value).run Try.prog w = .ok (.bool (!decide (a0 = b0 ∧ a1 = b1))) w := by
  intro w
  have h : ∀ w, (Op.equal 33 (.agg #[.int .i64 a0, .int .i64 a1]) (.agg #[.int .i64 b0, .int .i64 b1])).run Try.prog w = .ok (decide (a0 = b0 ∧ a1 = b1)) w := by
    intro w
    unfold Op.equal Op.maxDepth; rw [decI2]; simp [go_sem]; (try (by_cases h1 : a0 = b0 <;> by_cases h2 : a1 = b1 <;> simp [h1, h2]))
  simp [eqGuard, binOp, h, go_sem]
theorem fd36_7 {d : Option Tmp} {ty : TypeId} {pos : String} {af : Array Edge} {g : Option (Nat × Bool)} {σ : Env} {w : World} {K : Value → World → Prop} {x : Operand} {b o : Nat} (hx : ev σ x = .pointer (some ⟨b, o, none⟩)) (h : K (.pointer (some ⟨b, o + 8, none⟩)) w) : opV Try.prog ⟨d, .fieldAddr 36 x 7, ty, pos, af, g⟩ σ w K := ov_fieldAddr Try.underlying36 rfl rfl (fun w => ⟨0, Try.sizeOf3 w⟩) hx h
theorem D_sameEvent {G : Nat → Prop} {W w : World} {Rs : List HP} {a : Ev} {da0 : Value} (hda0 : RdS W G da0 a.deps) (oa : a.Ok) {b : Ev} {db0 : Value} (hdb0 : RdS W G db0 b.deps) (ob : b.Ok) (hS0 : Sep G W Rs w) : Ret Try.prog 30 [.agg (a.cells da0).toArray, .agg (b.cells db0).toArray] w (fun r w' => r = (.bool (decide (a = b)) : Value) ∧ Sep G W Rs w') := by
 have hda0s : a.deps.length * 8 ≤ 140737488355328 := hda0.small
 have hdb0s : b.deps.length * 8 ≤ 140737488355328 := hdb0.small
 refine Calls_of_WP (args := [.agg (a.cells da0).toArray, .agg (b.cells db0).toArray]) Try.func30 rfl rfl ?_
 refine WP_seq ?_
 refine WP_region0 (by kernel_rfl) (fun _ => ?_)
 refine st (ov_box (v := .agg (a.cells da0).toArray) rfl ?_)
 intro w3 b2 hn1
 have hS4 : Sep G W ((Blk b2 (a.cells da0).toArray 36) :: Rs) w3 := hS0.new hn1
 refine st (ov_box (v := .agg (b.cells db0).toArray) rfl ?_)
 intro w7 b6 hn5
 have hS8 : Sep G W ((Blk b6 (b.cells db0).toArray 36) :: (Blk b2 (a.cells da0).toArray 36) :: Rs) w7 := hS4.new hn5
 refine st (ov_assign (v := .bool false) rfl ?_)
 refine st_nil ?_
 refine WP_seq ?_
 refine WP_region (by kernel_rfl) ?_
 refine st (fd36_0 rfl ?_)
 refine st (ov_loadk (k := 2) (cs := [.int .i64 (a.origin), .int .i64 (a.seq)]) Try.isAgg33 Try.sizeOf33 rfl rfl (CellsAt.sub (CellsAt.all (hS8.blk (i := 1) rfl)) 0 (cs2 := [.int .i64 (a.origin), .int .i64 (a.seq)]) rfl) ?_)
 refine st (fd36_0 rfl ?_)
 refine st (ov_loadk (k := 2) (cs := [.int .i64 (b.origin), .int .i64 (b.seq)]) Try.isAgg33 Try.sizeOf33 rfl rfl (CellsAt.sub (CellsAt.all (hS8.blk (i := 0) rfl)) 0 (cs2 := [.int .i64 (b.origin), .int .i64 (b.seq)]) rfl) ?_)
 refine st (ov_eqlS (e := decide (a.origin = b.origin ∧ a.seq = b.seq)) (xs := #[.int .i64 (a.origin), .int .i64 (a.seq)]) (ys := #[.int .i64 (b.origin), .int .i64 (b.seq)]) eqS33 rfl rfl ?_)
 refine st (ov_move (v := .bool (decide (a.origin = b.origin ∧ a.seq = b.seq))) rfl ?_)
 refine stc (V := .pointer (some ⟨b2, 2, none⟩)) rfl rfl (fun hb9 => ?_) ?_
 ·have hl10 := hb9
  have hl10 := of_decide_eq_true hl10
  exact fd36_1 rfl ⟨rfl, rfl⟩
 refine stc (V := .int .i64 (a.lam)) rfl rfl (fun hb11 => ?_) ?_
 ·have hl12 := hb11
  have hl12 := of_decide_eq_true hl12
  exact ov_load1 (v := .int .i64 (a.lam)) Try.isAgg3 (show _ = (.pointer (some ⟨b2, 2, none⟩) : Value) from (if_pos hb11)) (blk_cellL (hS8.blk (i := 1) rfl) rfl) ⟨rfl, rfl⟩
 refine stc (V := .pointer (some ⟨b6, 2, none⟩)) rfl rfl (fun hb13 => ?_) ?_
 ·have hl14 := hb13
  have hl14 := of_decide_eq_true hl14
  exact fd36_1 rfl ⟨rfl, rfl⟩
 refine stc (V := .int .i64 (b.lam)) rfl rfl (fun hb15 => ?_) ?_
 ·have hl16 := hb15
  have hl16 := of_decide_eq_true hl16
  exact ov_load1 (v := .int .i64 (b.lam)) Try.isAgg3 (show _ = (.pointer (some ⟨b6, 2, none⟩) : Value) from (if_pos hb15)) (blk_cellL (hS8.blk (i := 0) rfl) rfl) ⟨rfl, rfl⟩
 refine stc (V := .bool (decide (a.lam = b.lam))) rfl rfl (fun hb17 => ?_) ?_
 ·have hl18 := hb17
  have hl18 := of_decide_eq_true hl18
  exact ov_eql (k := .i64) (a := a.lam) (b := b.lam) (show _ = (.int .i64 (a.lam) : Value) from (if_pos hb17)) (show _ = (.int .i64 (b.lam) : Value) from (if_pos hb17)) ⟨rfl, rfl⟩
 refine st (ov_pick_and (b := decide (a.origin = b.origin ∧ a.seq = b.seq)) (b' := decide (a.lam = b.lam)) rfl (fun hbp => (show _ = (.bool (decide (a.lam = b.lam)) : Value) from (if_pos hbp))) ?_)
 refine st (ov_move (v := .bool ((decide (a.origin = b.origin ∧ a.seq = b.seq)) && (decide (a.lam = b.lam)))) rfl ?_)
 refine stc (V := .pointer (some ⟨b2, 3, none⟩)) rfl rfl (fun hb19 => ?_) ?_
 ·have hl20 := hb19
  try simp only [bools] at hl20
  exact fd36_2 rfl ⟨rfl, rfl⟩
 refine stc (V := da0) rfl rfl (fun hb21 => ?_) ?_
 ·have hl22 := hb21
  try simp only [bools] at hl22
  exact ov_load1 (v := da0) Try.isAgg34 (show _ = (.pointer (some ⟨b2, 3, none⟩) : Value) from (if_pos hb21)) (blk_cellL (hS8.blk (i := 1) rfl) rfl) ⟨rfl, rfl⟩
 refine stc (V := .pointer (some ⟨b6, 3, none⟩)) rfl rfl (fun hb23 => ?_) ?_
 ·have hl24 := hb23
  try simp only [bools] at hl24
  exact fd36_2 rfl ⟨rfl, rfl⟩
 refine stc (V := db0) rfl rfl (fun hb25 => ?_) ?_
 ·have hl26 := hb25
  try simp only [bools] at hl26
  exact ov_load1 (v := db0) Try.isAgg34 (show _ = (.pointer (some ⟨b6, 3, none⟩) : Value) from (if_pos hb25)) (blk_cellL (hS8.blk (i := 0) rfl) rfl) ⟨rfl, rfl⟩
 refine stcw (V := .bool (decide (a.deps = b.deps))) (fun _ wq => Sep G W ((Blk b6 (b.cells db0).toArray 36) :: (Blk b2 (a.cells da0).toArray 36) :: Rs) wq) hS8 rfl rfl (fun hb27 => ?_) (fun w31 hS32 => ?_)
 ·have hl28 := hb27
  try simp only [bools] at hl28
  refine (ov_call (f := 27) (vals := [da0, db0]) (cap := []) (show _ = (.func (.func 27) #[] #[] : Value) from rfl) (mapL ⟨(show _ = (da0 : Value) from (if_pos hb27)), (show _ = (db0 : Value) from (if_pos hb27)), trivial⟩) Try.call27 (D_SameInts (a := a.deps) (va := da0) (b := b.deps) (vb := db0) hda0 hdb0 hS8) ?_)
  rintro _ w29 ⟨rfl, hS30⟩
  exact ⟨rfl, hS30⟩
 refine st (ov_pick_and (b := (decide (a.origin = b.origin ∧ a.seq = b.seq)) && (decide (a.lam = b.lam))) (b' := decide (a.deps = b.deps)) rfl (fun hbp => (show _ = (.bool (decide (a.deps = b.deps)) : Value) from (if_pos hbp))) ?_)
 refine st (ov_move (v := .bool (((decide (a.origin = b.origin ∧ a.seq = b.seq)) && (decide (a.lam = b.lam))) && (decide (a.deps = b.deps)))) rfl ?_)
 refine stc (V := .pointer (some ⟨b2, 4, none⟩)) rfl rfl (fun hb33 => ?_) ?_
 ·have hl34 := hb33
  try simp only [bools] at hl34
  exact fd36_3 rfl ⟨rfl, rfl⟩
 refine stc (V := .int .i64 (a.typ)) rfl rfl (fun hb35 => ?_) ?_
 ·have hl36 := hb35
  try simp only [bools] at hl36
  exact ov_load1 (v := .int .i64 (a.typ)) Try.isAgg3 (show _ = (.pointer (some ⟨b2, 4, none⟩) : Value) from (if_pos hb35)) (blk_cellL (hS32.blk (i := 1) rfl) rfl) ⟨rfl, rfl⟩
 refine stc (V := .pointer (some ⟨b6, 4, none⟩)) rfl rfl (fun hb37 => ?_) ?_
 ·have hl38 := hb37
  try simp only [bools] at hl38
  exact fd36_3 rfl ⟨rfl, rfl⟩
 refine stc (V := .int .i64 (b.typ)) rfl rfl (fun hb39 => ?_) ?_
 ·have hl40 := hb39
  try simp only [bools] at hl40
  exact ov_load1 (v := .int .i64 (b.typ)) Try.isAgg3 (show _ = (.pointer (some ⟨b6, 4, none⟩) : Value) from (if_pos hb39)) (blk_cellL (hS32.blk (i := 0) rfl) rfl) ⟨rfl, rfl⟩
 refine stc (V := .bool (decide (a.typ = b.typ))) rfl rfl (fun hb41 => ?_) ?_
 ·have hl42 := hb41
  try simp only [bools] at hl42
  exact ov_eql (k := .i64) (a := a.typ) (b := b.typ) (show _ = (.int .i64 (a.typ) : Value) from (if_pos hb41)) (show _ = (.int .i64 (b.typ) : Value) from (if_pos hb41)) ⟨rfl, rfl⟩
 refine st (ov_pick_and (b := ((decide (a.origin = b.origin ∧ a.seq = b.seq)) && (decide (a.lam = b.lam))) && (decide (a.deps = b.deps))) (b' := decide (a.typ = b.typ)) rfl (fun hbp => (show _ = (.bool (decide (a.typ = b.typ)) : Value) from (if_pos hbp))) ?_)
 refine st (ov_move (v := .bool ((((decide (a.origin = b.origin ∧ a.seq = b.seq)) && (decide (a.lam = b.lam))) && (decide (a.deps = b.deps))) && (decide (a.typ = b.typ)))) rfl ?_)
 refine stc (V := .pointer (some ⟨b2, 5, none⟩)) rfl rfl (fun hb43 => ?_) ?_
 ·have hl44 := hb43
  try simp only [bools] at hl44
  exact fd36_4 rfl ⟨rfl, rfl⟩
 refine stc (V := .int .i64 (a.agg)) rfl rfl (fun hb45 => ?_) ?_
 ·have hl46 := hb45
  try simp only [bools] at hl46
  exact ov_load1 (v := .int .i64 (a.agg)) Try.isAgg3 (show _ = (.pointer (some ⟨b2, 5, none⟩) : Value) from (if_pos hb45)) (blk_cellL (hS32.blk (i := 1) rfl) rfl) ⟨rfl, rfl⟩
 refine stc (V := .pointer (some ⟨b6, 5, none⟩)) rfl rfl (fun hb47 => ?_) ?_
 ·have hl48 := hb47
  try simp only [bools] at hl48
  exact fd36_4 rfl ⟨rfl, rfl⟩
 refine stc (V := .int .i64 (b.agg)) rfl rfl (fun hb49 => ?_) ?_
 ·have hl50 := hb49
  try simp only [bools] at hl50
  exact ov_load1 (v := .int .i64 (b.agg)) Try.isAgg3 (show _ = (.pointer (some ⟨b6, 5, none⟩) : Value) from (if_pos hb49)) (blk_cellL (hS32.blk (i := 0) rfl) rfl) ⟨rfl, rfl⟩
 refine stc (V := .bool (decide (a.agg = b.agg))) rfl rfl (fun hb51 => ?_) ?_
 ·have hl52 := hb51
  try simp only [bools] at hl52
  exact ov_eql (k := .i64) (a := a.agg) (b := b.agg) (show _ = (.int .i64 (a.agg) : Value) from (if_pos hb51)) (show _ = (.int .i64 (b.agg) : Value) from (if_pos hb51)) ⟨rfl, rfl⟩
 refine st (ov_pick_and (b := (((decide (a.origin = b.origin ∧ a.seq = b.seq)) && (decide (a.lam = b.lam))) && (decide (a.deps = b.deps))) && (decide (a.typ = b.typ))) (b' := decide (a.agg = b.agg)) rfl (fun hbp => (show _ = (.bool (decide (a.agg = b.agg)) : Value) from (if_pos hbp))) ?_)
 refine st (ov_move (v := .bool (((((decide (a.origin = b.origin ∧ a.seq = b.seq)) && (decide (a.lam = b.lam))) && (decide (a.deps = b.deps))) && (decide (a.typ = b.typ))) && (decide (a.agg = b.agg)))) rfl ?_)
 refine stc (V := .pointer (some ⟨b2, 6, none⟩)) rfl rfl (fun hb53 => ?_) ?_
 ·have hl54 := hb53
  try simp only [bools] at hl54
  exact fd36_5 rfl ⟨rfl, rfl⟩
 refine stc (V := .int .i64 (a.field)) rfl rfl (fun hb55 => ?_) ?_
 ·have hl56 := hb55
  try simp only [bools] at hl56
  exact ov_load1 (v := .int .i64 (a.field)) Try.isAgg3 (show _ = (.pointer (some ⟨b2, 6, none⟩) : Value) from (if_pos hb55)) (blk_cellL (hS32.blk (i := 1) rfl) rfl) ⟨rfl, rfl⟩
 refine stc (V := .pointer (some ⟨b6, 6, none⟩)) rfl rfl (fun hb57 => ?_) ?_
 ·have hl58 := hb57
  try simp only [bools] at hl58
  exact fd36_5 rfl ⟨rfl, rfl⟩
 refine stc (V := .int .i64 (b.field)) rfl rfl (fun hb59 => ?_) ?_
 ·have hl60 := hb59
  try simp only [bools] at hl60
  exact ov_load1 (v := .int .i64 (b.field)) Try.isAgg3 (show _ = (.pointer (some ⟨b6, 6, none⟩) : Value) from (if_pos hb59)) (blk_cellL (hS32.blk (i := 0) rfl) rfl) ⟨rfl, rfl⟩
 refine stc (V := .bool (decide (a.field = b.field))) rfl rfl (fun hb61 => ?_) ?_
 ·have hl62 := hb61
  try simp only [bools] at hl62
  exact ov_eql (k := .i64) (a := a.field) (b := b.field) (show _ = (.int .i64 (a.field) : Value) from (if_pos hb61)) (show _ = (.int .i64 (b.field) : Value) from (if_pos hb61)) ⟨rfl, rfl⟩
 refine st (ov_pick_and (b := ((((decide (a.origin = b.origin ∧ a.seq = b.seq)) && (decide (a.lam = b.lam))) && (decide (a.deps = b.deps))) && (decide (a.typ = b.typ))) && (decide (a.agg = b.agg))) (b' := decide (a.field = b.field)) rfl (fun hbp => (show _ = (.bool (decide (a.field = b.field)) : Value) from (if_pos hbp))) ?_)
 refine st (ov_move (v := .bool ((((((decide (a.origin = b.origin ∧ a.seq = b.seq)) && (decide (a.lam = b.lam))) && (decide (a.deps = b.deps))) && (decide (a.typ = b.typ))) && (decide (a.agg = b.agg))) && (decide (a.field = b.field)))) rfl ?_)
 refine stc (V := .pointer (some ⟨b2, 7, none⟩)) rfl rfl (fun hb63 => ?_) ?_
 ·have hl64 := hb63
  try simp only [bools] at hl64
  exact fd36_6 rfl ⟨rfl, rfl⟩
 refine stc (V := .int .i64 (a.op)) rfl rfl (fun hb65 => ?_) ?_
 ·have hl66 := hb65
  try simp only [bools] at hl66
  exact ov_load1 (v := .int .i64 (a.op)) Try.isAgg3 (show _ = (.pointer (some ⟨b2, 7, none⟩) : Value) from (if_pos hb65)) (blk_cellL (hS32.blk (i := 1) rfl) rfl) ⟨rfl, rfl⟩
 refine stc (V := .pointer (some ⟨b6, 7, none⟩)) rfl rfl (fun hb67 => ?_) ?_
 ·have hl68 := hb67
  try simp only [bools] at hl68
  exact fd36_6 rfl ⟨rfl, rfl⟩
 refine stc (V := .int .i64 (b.op)) rfl rfl (fun hb69 => ?_) ?_
 ·have hl70 := hb69
  try simp only [bools] at hl70
  exact ov_load1 (v := .int .i64 (b.op)) Try.isAgg3 (show _ = (.pointer (some ⟨b6, 7, none⟩) : Value) from (if_pos hb69)) (blk_cellL (hS32.blk (i := 0) rfl) rfl) ⟨rfl, rfl⟩
 refine stc (V := .bool (decide (a.op = b.op))) rfl rfl (fun hb71 => ?_) ?_
 ·have hl72 := hb71
  try simp only [bools] at hl72
  exact ov_eql (k := .i64) (a := a.op) (b := b.op) (show _ = (.int .i64 (a.op) : Value) from (if_pos hb71)) (show _ = (.int .i64 (b.op) : Value) from (if_pos hb71)) ⟨rfl, rfl⟩
 refine st (ov_pick_and (b := (((((decide (a.origin = b.origin ∧ a.seq = b.seq)) && (decide (a.lam = b.lam))) && (decide (a.deps = b.deps))) && (decide (a.typ = b.typ))) && (decide (a.agg = b.agg))) && (decide (a.field = b.field))) (b' := decide (a.op = b.op)) rfl (fun hbp => (show _ = (.bool (decide (a.op = b.op)) : Value) from (if_pos hbp))) ?_)
 refine st (ov_move (v := .bool (((((((decide (a.origin = b.origin ∧ a.seq = b.seq)) && (decide (a.lam = b.lam))) && (decide (a.deps = b.deps))) && (decide (a.typ = b.typ))) && (decide (a.agg = b.agg))) && (decide (a.field = b.field))) && (decide (a.op = b.op)))) rfl ?_)
 refine stc (V := .pointer (some ⟨b2, 8, none⟩)) rfl rfl (fun hb73 => ?_) ?_
 ·have hl74 := hb73
  try simp only [bools] at hl74
  exact fd36_7 rfl ⟨rfl, rfl⟩
 refine stc (V := .int .i64 (a.arg)) rfl rfl (fun hb75 => ?_) ?_
 ·have hl76 := hb75
  try simp only [bools] at hl76
  exact ov_load1 (v := .int .i64 (a.arg)) Try.isAgg3 (show _ = (.pointer (some ⟨b2, 8, none⟩) : Value) from (if_pos hb75)) (blk_cellL (hS32.blk (i := 1) rfl) rfl) ⟨rfl, rfl⟩
 refine stc (V := .pointer (some ⟨b6, 8, none⟩)) rfl rfl (fun hb77 => ?_) ?_
 ·have hl78 := hb77
  try simp only [bools] at hl78
  exact fd36_7 rfl ⟨rfl, rfl⟩
 refine stc (V := .int .i64 (b.arg)) rfl rfl (fun hb79 => ?_) ?_
 ·have hl80 := hb79
  try simp only [bools] at hl80
  exact ov_load1 (v := .int .i64 (b.arg)) Try.isAgg3 (show _ = (.pointer (some ⟨b6, 8, none⟩) : Value) from (if_pos hb79)) (blk_cellL (hS32.blk (i := 0) rfl) rfl) ⟨rfl, rfl⟩
 refine stc (V := .bool (decide (a.arg = b.arg))) rfl rfl (fun hb81 => ?_) ?_
 ·have hl82 := hb81
  try simp only [bools] at hl82
  exact ov_eql (k := .i64) (a := a.arg) (b := b.arg) (show _ = (.int .i64 (a.arg) : Value) from (if_pos hb81)) (show _ = (.int .i64 (b.arg) : Value) from (if_pos hb81)) ⟨rfl, rfl⟩
 refine st (ov_pick_and (b := ((((((decide (a.origin = b.origin ∧ a.seq = b.seq)) && (decide (a.lam = b.lam))) && (decide (a.deps = b.deps))) && (decide (a.typ = b.typ))) && (decide (a.agg = b.agg))) && (decide (a.field = b.field))) && (decide (a.op = b.op))) (b' := decide (a.arg = b.arg)) rfl (fun hbp => (show _ = (.bool (decide (a.arg = b.arg)) : Value) from (if_pos hbp))) ?_)
 refine st (ov_move (v := .bool ((((((((decide (a.origin = b.origin ∧ a.seq = b.seq)) && (decide (a.lam = b.lam))) && (decide (a.deps = b.deps))) && (decide (a.typ = b.typ))) && (decide (a.agg = b.agg))) && (decide (a.field = b.field))) && (decide (a.op = b.op))) && (decide (a.arg = b.arg)))) rfl ?_)
 refine stc (V := .pointer (some ⟨b2, 9, none⟩)) rfl rfl (fun hb83 => ?_) ?_
 ·have hl84 := hb83
  try simp only [bools] at hl84
  exact fd36_8 rfl ⟨rfl, rfl⟩
 refine stc (V := .int .i64 (a.key)) rfl rfl (fun hb85 => ?_) ?_
 ·have hl86 := hb85
  try simp only [bools] at hl86
  exact ov_load1 (v := .int .i64 (a.key)) Try.isAgg3 (show _ = (.pointer (some ⟨b2, 9, none⟩) : Value) from (if_pos hb85)) (blk_cellL (hS32.blk (i := 1) rfl) rfl) ⟨rfl, rfl⟩
 refine stc (V := .pointer (some ⟨b6, 9, none⟩)) rfl rfl (fun hb87 => ?_) ?_
 ·have hl88 := hb87
  try simp only [bools] at hl88
  exact fd36_8 rfl ⟨rfl, rfl⟩
 refine stc (V := .int .i64 (b.key)) rfl rfl (fun hb89 => ?_) ?_
 ·have hl90 := hb89
  try simp only [bools] at hl90
  exact ov_load1 (v := .int .i64 (b.key)) Try.isAgg3 (show _ = (.pointer (some ⟨b6, 9, none⟩) : Value) from (if_pos hb89)) (blk_cellL (hS32.blk (i := 0) rfl) rfl) ⟨rfl, rfl⟩
 refine stc (V := .bool (decide (a.key = b.key))) rfl rfl (fun hb91 => ?_) ?_
 ·have hl92 := hb91
  try simp only [bools] at hl92
  exact ov_eql (k := .i64) (a := a.key) (b := b.key) (show _ = (.int .i64 (a.key) : Value) from (if_pos hb91)) (show _ = (.int .i64 (b.key) : Value) from (if_pos hb91)) ⟨rfl, rfl⟩
 refine st (ov_pick_and (b := (((((((decide (a.origin = b.origin ∧ a.seq = b.seq)) && (decide (a.lam = b.lam))) && (decide (a.deps = b.deps))) && (decide (a.typ = b.typ))) && (decide (a.agg = b.agg))) && (decide (a.field = b.field))) && (decide (a.op = b.op))) && (decide (a.arg = b.arg))) (b' := decide (a.key = b.key)) rfl (fun hbp => (show _ = (.bool (decide (a.key = b.key)) : Value) from (if_pos hbp))) ?_)
 refine st (ov_assign (v := .bool (((((((((decide (a.origin = b.origin ∧ a.seq = b.seq)) && (decide (a.lam = b.lam))) && (decide (a.deps = b.deps))) && (decide (a.typ = b.typ))) && (decide (a.agg = b.agg))) && (decide (a.field = b.field))) && (decide (a.op = b.op))) && (decide (a.arg = b.arg))) && (decide (a.key = b.key)))) rfl ?_)
 refine st_nil ?_
 refine WP_ret ?_
 refine fin1 Try.results30 (show _ = (.bool (((((((((decide (a.origin = b.origin ∧ a.seq = b.seq)) && (decide (a.lam = b.lam))) && (decide (a.deps = b.deps))) && (decide (a.typ = b.typ))) && (decide (a.agg = b.agg))) && (decide (a.field = b.field))) && (decide (a.op = b.op))) && (decide (a.arg = b.arg))) && (decide (a.key = b.key))) : Value) from rfl) ?_
 have hS93 : Sep G W Rs w31 := hS32.sel 2 [] (Nat.le_add_left _ _) rfl rfl
 refine ⟨?_, hS93⟩
 congr 1
 rw [Bool.eq_iff_iff]
 simp only [Bool.and_eq_true, decide_eq_true_eq, Ev.eq_iff]
 constructor
 · rintro ⟨⟨⟨⟨⟨⟨⟨⟨h1, h3⟩, h4⟩, h5⟩, h6⟩, h7⟩, h8⟩, h9⟩, h10⟩; exact ⟨h1.1, h1.2, h3, h4, h5, h6, h7, h8, h9, h10⟩
 · rintro ⟨h1, h2, h3, h4, h5, h6, h7, h8, h9, h10⟩; exact ⟨⟨⟨⟨⟨⟨⟨⟨⟨h1, h2⟩, h3⟩, h4⟩, h5⟩, h6⟩, h7⟩, h8⟩, h9⟩, h10⟩

theorem D_copyEvent {G : Nat → Prop} {W w : World} {Rs : List HP} {e : Ev} {de0 : Value} (hde0 : RdS W G de0 e.deps) (oe : e.Ok) (hS0 : Sep G W Rs w) : Ret Try.prog 35 [.agg (e.cells de0).toArray] w (fun r w' => ∃ (v : Value), r = (.agg (e.cells v).toArray : Value) ∧ Sep G W ((RowE (α := Int) own 3 v e.deps) :: Rs) w') := by
 have hde0s : e.deps.length * 8 ≤ 140737488355328 := hde0.small
 refine Calls_of_WP (args := [.agg (e.cells de0).toArray]) Try.func35 rfl rfl ?_
 refine WP_seq ?_
 refine WP_region0 (by kernel_rfl) (fun _ => ?_)
 refine st (ov_box (v := .agg (e.cells de0).toArray) rfl ?_)
 intro w3 b2 hn1
 have hS4 : Sep G W ((Blk b2 (e.cells de0).toArray 36) :: Rs) w3 := hS0.new hn1
 refine st (ov_alloc Try.zeroValue36 ?_)
 intro w7 b6 hn5
 have hS8 : Sep G W ((Blk b6 #[.int .i64 (0), .int .i64 (0), .int .i64 (0), (.slice none 0 0), .int .i64 (0), .int .i64 (0), .int .i64 (0), .int .i64 (0), .int .i64 (0), .int .i64 (0)] 36) :: (Blk b2 (e.cells de0).toArray 36) :: Rs) w7 := hS4.new hn5
 refine st_nil ?_
 refine WP_seq ?_
 refine WP_region0 (by kernel_rfl) (fun _ => ?_)
 refine st (fd36_2 rfl ?_)
 refine st (ov_load1 (v := de0) Try.isAgg34 rfl (blk_cellL (hS8.blk (i := 1) rfl) rfl) ?_)
 refine st (ov_call (f := 62) (vals := [de0]) (cap := []) (show _ = (.func (.func 62) #[] #[] : Value) from rfl) rfl Try.call62 (D_CopyInts (l := e.deps) (vl := de0) hde0 hS8) ?_)
 rintro v9 w10 ⟨_, rfl, hS11⟩
 have hr12 := hS11.row (i := 0) rfl
 have hr12s : e.deps.length * 8 ≤ 140737488355328 := hr12.2
 refine st (fd36_2 rfl ?_)
 refine stn (ov_store1 (v := v9) (c := [.int .i64 (e.origin), .int .i64 (e.seq), .int .i64 (e.lam), de0, .int .i64 (e.typ), .int .i64 (e.agg), .int .i64 (e.field), .int .i64 (e.op), .int .i64 (e.arg), .int .i64 (e.key)]) (c' := [.int .i64 (e.origin), .int .i64 (e.seq), .int .i64 (e.lam), v9, .int .i64 (e.typ), .int .i64 (e.agg), .int .i64 (e.field), .int .i64 (e.op), .int .i64 (e.arg), .int .i64 (e.key)]) Try.sizeOf34 rfl rfl (hS11.blk (i := 2) rfl) hr12.1.one rfl rfl ?_)
 intro w13 hp14
 have ok15 : Ev.Ok e := ⟨(show InR (e.origin) from oe.origin), (show InR (e.seq) from oe.seq), (show InR (e.lam) from oe.lam), (show InR (e.typ) from oe.typ), (show InR (e.agg) from oe.agg), (show InR (e.field) from oe.field), (show InR (e.op) from oe.op), (show InR (e.arg) from oe.arg), (show InR (e.key) from oe.key)⟩
 have hS16 : Sep G W ((RowE (α := Int) own 3 v9 e.deps) :: (Blk b6 #[.int .i64 (0), .int .i64 (0), .int .i64 (0), (.slice none 0 0), .int .i64 (0), .int .i64 (0), .int .i64 (0), .int .i64 (0), .int .i64 (0), .int .i64 (0)] 36) :: (Blk b2 (e.cells v9).toArray 36) :: Rs) w13 := hS11.put (i := 2) rfl hp14
 refine st_nil ?_
 refine WP_seq ?_
 refine WP_region0 (by kernel_rfl) (fun _ => ?_)
 refine st (ov_loadk (k := 10) Try.isAgg36 Try.sizeOf36 rfl rfl (CellsAt.all (hS16.blk (i := 2) rfl)) ?_)
 refine stn (ov_store (v := .agg (e.cells v9).toArray) (c' := (e.cells v9).toArray) Try.sizeOf36 rfl rfl (hS16.blk (i := 1) rfl) (all1 ⟨rfl, rfl, rfl, hr12.1.one, rfl, rfl, rfl, rfl, rfl, rfl, trivial⟩) (Nat.le_of_ble_eq_true rfl) rfl ?_)
 intro w17 hp18
 have hS19 : Sep G W ((RowE (α := Int) own 3 v9 e.deps) :: (Blk b6 (e.cells v9).toArray 36) :: (Blk b2 (e.cells v9).toArray 36) :: Rs) w17 := hS16.put (i := 1) rfl hp18
 refine st_nil ?_
 refine WP_ret ?_
 refine finc (b := b6) Try.results35 Try.isAgg36 Try.sizeOf36 rfl rfl (CellsAt.all (hS19.blk (i := 1) rfl)) ?_
 have hS20 : Sep G W ((RowE (α := Int) own 3 v9 e.deps) :: Rs) w17 := hS19.sel 3 [0] (Nat.le_add_left _ _) rfl rfl
 refine ⟨v9, rfl, hS20⟩

end Go.Proofs.Ytgjgmojjeehieaa
