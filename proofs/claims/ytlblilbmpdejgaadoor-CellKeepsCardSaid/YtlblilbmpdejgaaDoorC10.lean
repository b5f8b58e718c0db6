/- Steps of the proofs of this seat: part C10. -/
import Derived.Test.YtlblilbmpdejgaaDoorC9
set_option linter.unusedSimpArgs false
set_option linter.unusedVariables false
set_option maxRecDepth 8000
namespace Go.Proofs.YtlblilbmpdejgaaDoor
open Go.Proofs Go.RowKit

theorem ext_getD {α : Type} {a b : List α} {d : α} (hl : a.length = b.length) (h : ∀ i, i < a.length → a.getD i d = b.getD i d) : a = b := by
  refine List.ext_getElem hl (fun i h1 h2 => ?_)
  have := h i h1
  rwa [getD_at _ h1, getD_at _ h2] at this
theorem D_CopyInts {G : Nat → Prop} {W w : World} {Rs : List HP} {vl : Value} {l : List Int} (hl : RdS W G vl l) (hS0 : Sep G W Rs w) : Ret Tryd.prog 58 [vl] w (fun r w' => ∃ (v : Value), r = (v : Value) ∧ Sep G W ((RowE (α := Int) own 3 v l) :: Rs) w') := by
 have hls : l.length * 8 ≤ 140737488355328 := hl.small
 refine Calls_of_WP (args := [vl]) Tryd.func58 rfl rfl ?_
 refine WP_seq ?_
 refine WP_region0 (by kernel_rfl) (fun _ => ?_)
 refine st (ov_assign (v := (.slice none 0 0)) rfl ?_)
 refine st_nil ?_
 refine WP_seq ?_
 refine WP_region0 (by kernel_rfl) (fun _ => ?_)
 refine st (ov_assign (v := (.slice none 0 0)) rfl ?_)
 refine st_nil ?_
 refine WP_seq ?_
 refine WP_seq ?_
 refine WP_region0 (by kernel_rfl) (fun _ => ?_)
 refine st (ov_assign (v := .int .i64 (0)) rfl ?_)
 refine st_nil ?_
 refine WP_block ?_
 have hS1 : Sep G W ((RowE (α := Int) own 3 (.slice none 0 0) ([] : List Int)) :: Rs) w := hS0.rowNil own 3
 refine WP_loop (fun mq σ wq => ∃ (k : Nat) (vo : Value) (ρ : Env), mq = l.length - k ∧ σ = setAll ρ [(0, vl), (4, .int .i64 ((k : Nat) : Int)), (3, vo)] ∧ (k ≤ l.length) ∧ Sep G W ((RowE (α := Int) own 3 vo (l.take k)) :: Rs) wq) ⟨0, (.slice none 0 0), _, rfl, setAll_self ⟨rfl, rfl, rfl, trivial⟩, Nat.zero_le _, hS1⟩ ?_
 rintro m3 σ4 w2 ⟨k, vo, ρl1, rfl, rfl, hkk, hS5⟩
 have hr6 := hS5.row (i := 0) rfl
 have hr6s : (l.take k).length * 8 ≤ 140737488355328 := hr6.2
 refine WP_seq ?_
 refine WP_seq ?_
 refine WP_region0 (by kernel_rfl) (fun _ => ?_)
 refine st (ov_move (v := .int .i64 ((k : Nat) : Int)) rfl ?_)
 refine st (ov_move (v := vl) rfl ?_)
 refine st (ov_len (n := l.length) Tryd.underlying40 rfl hl.sl ?_)
 refine st (ov_lss (k := .i64) (a := ((k : Nat) : Int)) (b := ((l.length : Nat) : Int)) rfl rfl ?_)
 refine st_nil ?_
 cases hc7 : decide (((k : Nat) : Int) < ((l.length : Nat) : Int))
 ·skip
  have hc7 := of_decide_eq_false hc7
  refine WP_cond_f rfl ?_
  refine WP_exit ?_
  refine blk_exit ?_
  refine WP_seq ?_
  refine WP_region0 (by kernel_rfl) (fun _ => ?_)
  refine st (ov_move (v := vo) rfl ?_)
  refine st (ov_assign (v := vo) rfl ?_)
  refine st_nil ?_
  refine WP_ret ?_
  refine fin1 Tryd.results58 (show _ = (vo : Value) from rfl) ?_
  have hk9 : k = l.length := by omega
  rw [hk9, List.take_length] at hS5
  refine ⟨vo, rfl, hS5⟩
 ·skip
  have hc7 := of_decide_eq_true hc7
  refine WP_cond_t rfl ?_
  refine WP_skip ?_
  refine WP_seq ?_
  refine WP_block ?_
  refine WP_region0 (by kernel_rfl) (fun _ => ?_)
  refine st (ov_move (v := vo) rfl ?_)
  refine st (ov_move (v := vl) rfl ?_)
  refine st (ov_move (v := .int .i64 ((k : Nat) : Int)) rfl ?_)
  have hi8 : k < l.length := (by first | omega | (simp only [lens]; omega))
  refine st (ov_indexAddrN (k := 1) (i := k) Tryd.underlying40 Tryd.sizeOf3 rfl hl.sl rfl hi8 ?_)
  have hi10 : k < l.length := (by first | omega | (simp only [lens]; omega))
  obtain ⟨hce9, hxe9⟩ := hl.int hi10
  rw [← getD_at 0 hi10] at hce9 hxe9
  have hcw11 := hS5.cells hce9 (hl.foot (ne_of_lt hi10))
  refine st (ov_load1 (v := .int .i64 ((l.getD k 0))) Tryd.isAgg3 rfl (hcw11.get (j := 0) rfl) ?_)
  refine st (ov_buildSlice (k := 1) (parts' := [(0, .int .i64 ((l.getD k 0)))]) (c := #[.int .i64 ((l.getD k 0))]) Tryd.underlying40 Tryd.sizeOf3 Tryd.zeroValue3 (by decide) rfl (by kernel_rfl) ?_)
  intro w14 b13 hn12
  have hS15 : Sep G W ((Blk b13 #[.int .i64 ((l.getD k 0))] 3) :: (RowE (α := Int) own 3 vo (l.take k)) :: Rs) w14 := hS5.new hn12
  have hbk19 := hS15.blk (i := 0) rfl
  have hS20 : Sep G W ((RowE (α := Int) own 3 vo (l.take k)) :: Rs) w14 := hS15.sel 2 [1] (Nat.le_add_left _ _) rfl rfl
  have hS21 : Sep G W ((RowE (α := Int) own 3 vo (l.take k)) :: Emp :: Rs) w14 := hS20.emp1
  refine st (ov_append1S (src := own) (bytes := 8) (x1 := (l.getD k 0)) hS21 el40 rfl rfl hbk19 (fun _ _ _ => (show _ from ⟨rfl, hxe9⟩)) (by first | omega | (simp only [List.length_append, List.length_cons, List.length_nil, List.length_take, List.length_drop]; omega)) rfl ?_)
  intro v17 w16 hS18
  have hr22 := hS18.row (i := 0) rfl
  have hr22s : ((l.take k) ++ [(l.getD k 0)]).length * 8 ≤ 140737488355328 := hr22.2
  refine st (ov_assign (v := v17) rfl ?_)
  refine st_nil ?_
  refine WP_region0 (by kernel_rfl) (fun _ => ?_)
  refine st (ov_move (v := .int .i64 ((k : Nat) : Int)) rfl ?_)
  have hr23 : InR ((k + 1 : Nat) : Int) := by first | omega | (simp only [lens]; omega)
  refine st (ov_add (r := ((k + 1 : Nat) : Int)) (k := .i64) (a := ((k : Nat) : Int)) (b := 1) rfl rfl (by rw [show (((k : Nat) : Int) + 1 : Int) = ((k + 1 : Nat) : Int) by first | omega | (simp only [lens]; omega)]; exact wrap_in hr23) ?_)
  refine st (ov_assign (v := .int .i64 ((k + 1 : Nat) : Int)) rfl ?_)
  refine st_nil ?_
  have hL24 : (l.take (k + 1)) = (l.take k) ++ [(l.getD k 0)] := (List.take_getD (by omega))
  rw [← hL24] at hS18
  exact ⟨_, by omega, k + 1, v17, _, rfl, setAll_self ⟨rfl, rfl, rfl, trivial⟩, by omega, hS18⟩

theorem D_SameInts {G : Nat → Prop} {W w : World} {Rs : List HP} {va : Value} {a : List Int} (ha : RdS W G va a) {vb : Value} {b : List Int} (hb : RdS W G vb b) (hS0 : Sep G W Rs w) : Ret Tryd.prog 19 [va, vb] w (fun r w' => r = (.bool (decide (a = b)) : Value) ∧ Sep G W Rs w') := by
 have has : a.length * 8 ≤ 140737488355328 := ha.small
 have hbs : b.length * 8 ≤ 140737488355328 := hb.small
 refine Calls_of_WP (args := [va, vb]) Tryd.func19 rfl rfl ?_
 refine WP_seq ?_
 refine WP_region0 (by kernel_rfl) (fun _ => ?_)
 refine st (ov_assign (v := .bool false) rfl ?_)
 refine st_nil ?_
 refine WP_seq ?_
 refine WP_seq ?_
 refine WP_region0 (by kernel_rfl) (fun _ => ?_)
 refine st (ov_move (v := va) rfl ?_)
 refine st (ov_len (n := a.length) Tryd.underlying40 rfl ha.sl ?_)
 refine st (ov_move (v := vb) rfl ?_)
 refine st (ov_len (n := b.length) Tryd.underlying40 rfl hb.sl ?_)
 refine st (ov_neq (k := .i64) (a := ((a.length : Nat) : Int)) (b := ((b.length : Nat) : Int)) rfl rfl ?_)
 refine st_nil ?_
 cases hc1 : !decide (((a.length : Nat) : Int) = ((b.length : Nat) : Int))
 ·skip
  have hc1 := ndec_false hc1
  refine WP_cond_f rfl ?_
  refine WP_skip ?_
  refine WP_seq ?_
  refine WP_seq ?_
  refine WP_region0 (by kernel_rfl) (fun _ => ?_)
  refine st (ov_assign (v := .int .i64 (0)) rfl ?_)
  refine st_nil ?_
  refine WP_block ?_
  refine WP_loop (fun mq σ wq => ∃ (k : Nat) (ρ : Env), mq = a.length - k ∧ σ = setAll ρ [(0, va), (1, vb), (5, .int .i64 ((k : Nat) : Int))] ∧ (k ≤ a.length) ∧ (∀ i, i < k → a.getD i 0 = b.getD i 0) ∧ Sep G W Rs wq) ⟨0, _, rfl, setAll_self ⟨rfl, rfl, rfl, trivial⟩, Nat.zero_le _, (fun i h => absurd h (Nat.not_lt_zero i)), hS0⟩ ?_
  rintro m3 σ4 w2 ⟨k, ρl1, rfl, rfl, hkk, hm, hS5⟩
  refine WP_seq ?_
  refine WP_seq ?_
  refine WP_region0 (by kernel_rfl) (fun _ => ?_)
  refine st (ov_move (v := .int .i64 ((k : Nat) : Int)) rfl ?_)
  refine st (ov_move (v := va) rfl ?_)
  refine st (ov_len (n := a.length) Tryd.underlying40 rfl ha.sl ?_)
  refine st (ov_lss (k := .i64) (a := ((k : Nat) : Int)) (b := ((a.length : Nat) : Int)) rfl rfl ?_)
  refine st_nil ?_
  cases hc6 : decide (((k : Nat) : Int) < ((a.length : Nat) : Int))
  ·skip
   have hc6 := of_decide_eq_false hc6
   refine WP_cond_f rfl ?_
   refine WP_exit ?_
   refine blk_exit ?_
   refine WP_seq ?_
   refine WP_region0 (by kernel_rfl) (fun _ => ?_)
   refine st (ov_assign (v := .bool true) rfl ?_)
   refine st_nil ?_
   refine WP_ret ?_
   refine fin1 Tryd.results19 (show _ = (.bool true : Value) from rfl) ?_
   refine ⟨?_, hS5⟩
   rw [decide_eq_true (ext_getD (by omega) (fun i hi => hm i (by omega)))]
  ·skip
   have hc6 := of_decide_eq_true hc6
   refine WP_cond_t rfl ?_
   refine WP_skip ?_
   refine WP_seq ?_
   refine WP_block ?_
   refine WP_seq ?_
   refine WP_draw4 (WF [fun vals wq => Sep G W Rs wq]) (AF [Vl 0 (va), Vl 1 (.int .i64 ((k : Nat) : Int)), Vl 2 (.pointer (some ⟨sb va, so va + k * 1, none⟩)), Vl 3 (.int .i64 ((a.getD k 0))), Vl 4 (vb), Vl 5 (.int .i64 ((k : Nat) : Int)), Vl 6 (.pointer (some ⟨sb vb, so vb + k * 1, none⟩)), Vl 7 (.int .i64 ((b.getD k 0))), Vl 8 (.bool (!decide ((a.getD k 0) = (b.getD k 0))))]) [[], [], [0, 1], [0, 1, 2], [], [], [4, 5], [4, 5, 6], [0, 1, 2, 3, 4, 5, 6, 7]] [] [(0, 0), (0, 0), (0, 0), (0, 0), (0, 0), (0, 0), (0, 0), (0, 0), (0, 0)] (by kernel_rfl) (by kernel_rfl) (by kernel_rfl) rfl (by kernel_rfl) (by kernel_rfl) (fun _ h1 h2 h3 h4 _ => hS5.same h1 h2 h3 h4) ?_ (AF_loc ⟨dA, dA, dA, dA, dA, dA, dA, dA, dA, trivial⟩) ⟨?_, ?_, ?_, ?_, ?_, ?_, ?_, ?_, ?_, trivial⟩ ?_
   ·intro k vals vals' w hv h
    match k, h with
    | 0, h => exact h
    | _ + 1, _ => trivial
   ·intro k82 vals w83 h86 h87 hW85 hA84
    refine obl rfl ?_
    exact ov_move (v := va) rfl (fun vals' hv _ => ⟨rfl, hv⟩)
   ·intro k88 vals w89 h92 h93 hW91 hA90
    refine obl rfl ?_
    exact ov_move (v := .int .i64 ((k : Nat) : Int)) rfl (fun vals' hv _ => ⟨rfl, hv⟩)
   ·intro k94 vals w95 h98 h99 hW97 hA96
    obtain rfl : k94 = 0 := Nat.le_antisymm h99 h98
    have hS100 : Sep G W Rs w95 := hW97
    have e101 : vals 0 = (va : Value) := hA96 0 (by decide)
    have e102 : vals 1 = (.int .i64 ((k : Nat) : Int) : Value) := hA96 1 (by decide)
    refine obl rfl ?_
    have hi103 : k < a.length := (by first | omega | (simp only [lens]; omega))
    exact ov_indexAddrN (k := 1) (i := k) Tryd.underlying40 Tryd.sizeOf3 e101 ha.sl e102 hi103 (fun vals' hv _ => ⟨rfl, hv⟩)
   ·intro k104 vals w105 h108 h109 hW107 hA106
    obtain rfl : k104 = 0 := Nat.le_antisymm h109 h108
    have hS110 : Sep G W Rs w105 := hW107
    have e111 : vals 2 = (.pointer (some ⟨sb va, so va + k * 1, none⟩) : Value) := hA106 2 (by decide)
    refine obl rfl ?_
    have hi113 : k < a.length := (by first | omega | (simp only [lens]; omega))
    obtain ⟨hce112, hxe112⟩ := ha.int hi113
    rw [← getD_at 0 hi113] at hce112 hxe112
    have hcw114 := hS110.cells hce112 (ha.foot (ne_of_lt hi113))
    exact ov_load1 (v := .int .i64 ((a.getD k 0))) Tryd.isAgg3 e111 (hcw114.get (j := 0) rfl) (fun vals' hv _ => ⟨rfl, hv⟩)
   ·intro k115 vals w116 h119 h120 hW118 hA117
    refine obl rfl ?_
    exact ov_move (v := vb) rfl (fun vals' hv _ => ⟨rfl, hv⟩)
   ·intro k121 vals w122 h125 h126 hW124 hA123
    refine obl rfl ?_
    exact ov_move (v := .int .i64 ((k : Nat) : Int)) rfl (fun vals' hv _ => ⟨rfl, hv⟩)
   ·intro k127 vals w128 h131 h132 hW130 hA129
    obtain rfl : k127 = 0 := Nat.le_antisymm h132 h131
    have hS133 : Sep G W Rs w128 := hW130
    have e134 : vals 4 = (vb : Value) := hA129 4 (by decide)
    have e135 : vals 5 = (.int .i64 ((k : Nat) : Int) : Value) := hA129 5 (by decide)
    refine obl rfl ?_
    have hi136 : k < b.length := (by first | omega | (simp only [lens]; omega))
    exact ov_indexAddrN (k := 1) (i := k) Tryd.underlying40 Tryd.sizeOf3 e134 hb.sl e135 hi136 (fun vals' hv _ => ⟨rfl, hv⟩)
   ·intro k137 vals w138 h141 h142 hW140 hA139
    obtain rfl : k137 = 0 := Nat.le_antisymm h142 h141
    have hS143 : Sep G W Rs w138 := hW140
    have e144 : vals 6 = (.pointer (some ⟨sb vb, so vb + k * 1, none⟩) : Value) := hA139 6 (by decide)
    refine obl rfl ?_
    have hi146 : k < b.length := (by first | omega | (simp only [lens]; omega))
    obtain ⟨hce145, hxe145⟩ := hb.int hi146
    rw [← getD_at 0 hi146] at hce145 hxe145
    have hcw147 := hS143.cells hce145 (hb.foot (ne_of_lt hi146))
    exact ov_load1 (v := .int .i64 ((b.getD k 0))) Tryd.isAgg3 e144 (hcw147.get (j := 0) rfl) (fun vals' hv _ => ⟨rfl, hv⟩)
   ·intro k148 vals w149 h152 h153 hW151 hA150
    obtain rfl : k148 = 0 := Nat.le_antisymm h153 h152
    have hS154 : Sep G W Rs w149 := hW151
    have e155 : vals 3 = (.int .i64 ((a.getD k 0)) : Value) := hA150 3 (by decide)
    have e156 : vals 7 = (.int .i64 ((b.getD k 0)) : Value) := hA150 7 (by decide)
    refine obl rfl ?_
    exact ov_neq (k := .i64) (a := (a.getD k 0)) (b := (b.getD k 0)) e155 e156 (fun vals' hv _ => ⟨rfl, hv⟩)
   intro vals w157 hW158 hA159
   have hS160 : Sep G W Rs w157 := hW158
   have e161 : vals 8 = (.bool (!decide ((a.getD k 0) = (b.getD k 0))) : Value) := hA159 8 (by decide)
   refine st_env (kv := [(0, va), (1, vb), (5, .int .i64 ((k : Nat) : Int)), (11, .int .i64 ((k : Nat) : Int)), (12, va), (13, .int .i64 ((a.length : Nat) : Int)), (14, .bool true), (25, .bool (!decide ((a.getD k 0) = (b.getD k 0))))]) ⟨rfl, rfl, rfl, rfl, rfl, rfl, rfl, (by exact e161), trivial⟩ (fun ρw157 => ?_)
   refine st_nil ?_
   cases hc162 : !decide ((a.getD k 0) = (b.getD k 0))
   ·skip
    have hc162 := ndec_false hc162
    refine WP_cond_f rfl ?_
    refine WP_skip ?_
    refine WP_region0 (by kernel_rfl) (fun _ => ?_)
    refine st (ov_move (v := .int .i64 ((k : Nat) : Int)) rfl ?_)
    have hr163 : InR ((k + 1 : Nat) : Int) := by first | omega | (simp only [lens]; omega)
    refine st (ov_add (r := ((k + 1 : Nat) : Int)) (k := .i64) (a := ((k : Nat) : Int)) (b := 1) rfl rfl (by rw [show (((k : Nat) : Int) + 1 : Int) = ((k + 1 : Nat) : Int) by first | omega | (simp only [lens]; omega)]; exact wrap_in hr163) ?_)
    refine st (ov_assign (v := .int .i64 ((k + 1 : Nat) : Int)) rfl ?_)
    refine st_nil ?_
    exact ⟨_, by omega, k + 1, _, rfl, setAll_self ⟨rfl, rfl, rfl, trivial⟩, by omega, (all_step hm (by omega)), hS160⟩
   ·skip
    have hc162 := ndec_true hc162
    refine WP_cond_t rfl ?_
    refine WP_seq ?_
    refine WP_region0 (by kernel_rfl) (fun _ => ?_)
    refine st (ov_assign (v := .bool false) rfl ?_)
    refine st_nil ?_
    refine WP_ret ?_
    refine fin1 Tryd.results19 (show _ = (.bool false : Value) from rfl) ?_
    refine ⟨?_, hS160⟩
    rw [decide_eq_false (fun e => by subst e; omega)]
 ·skip
  have hc1 := ndec_true hc1
  refine WP_cond_t rfl ?_
  refine WP_seq ?_
  refine WP_region0 (by kernel_rfl) (fun _ => ?_)
  refine st (ov_assign (v := .bool false) rfl ?_)
  refine st_nil ?_
  refine WP_ret ?_
  refine fin1 Tryd.results19 (show _ = (.bool false : Value) from rfl) ?_
  refine ⟨?_, hS0⟩
  rw [decide_eq_false (fun e => by subst e; omega)]

end Go.Proofs.YtlblilbmpdejgaaDoor
