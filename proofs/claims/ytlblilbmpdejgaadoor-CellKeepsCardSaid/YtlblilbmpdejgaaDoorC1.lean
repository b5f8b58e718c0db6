/- Steps of the proofs of this seat: part C1. -/
import Derived.Test.YtlblilbmpdejgaaDoorProg
import Derived.Test.YtlblilbmpdejgaaDoorRecs
import Derived.Test.YtlblilbmpdejgaaDoorPlain11
import Derived.Test.YtlblilbmpdejgaaDoorRowE2
import Derived.Test.YtlblilbmpdejgaaDoorDraw4
import Derived.Test.YtlblilbmpdejgaaDoorOps2
import Derived.Test.YtlblilbmpdejgaaDoorSep2
import Derived.Test.YtlblilbmpdejgaaDoorCelRows
import Derived.Test.YtlblilbmpdejgaaDoorBasic
set_option linter.unusedSimpArgs false
set_option linter.unusedVariables false
set_option maxRecDepth 8000
namespace Go.Proofs.YtlblilbmpdejgaaDoor
open Go.Proofs Go.RowKit

theorem D_nan1 {G : Nat → Prop} {W w : World} {Rs : List HP} {x : Int} (hx : InR x) (hS0 : Sep G W Rs w) : Ret Tryd.prog 106 [.int .i64 (x)] w (fun r w' => r = (.bool false : Value) ∧ Sep G W Rs w') := by
 refine Calls_of_WP (args := [.int .i64 (x)]) Tryd.func106 rfl rfl ?_
 refine WP_seq ?_
 refine WP_region0 (by kernel_rfl) (fun _ => ?_)
 refine st (ov_assign (v := .bool false) rfl ?_)
 refine st_nil ?_
 refine WP_seq ?_
 refine WP_region0 (by kernel_rfl) (fun _ => ?_)
 refine st (ov_move (v := .int .i64 (x)) rfl ?_)
 refine st (ov_move (v := .int .i64 (x)) rfl ?_)
 refine st (ov_neq (k := .i64) (a := x) (b := x) rfl rfl ?_)
 refine st (ov_assign (v := .bool (!decide (x = x))) rfl ?_)
 refine st_nil ?_
 refine WP_ret ?_
 refine fin1 Tryd.results106 (show _ = (.bool (!decide (x = x)) : Value) from rfl) ?_
 refine ⟨?_, hS0⟩
 simp

theorem D_nan2 {G : Nat → Prop} {W w : World} {Rs : List HP} {x : Int} (hx : InR x) (hS0 : Sep G W Rs w) : Ret Tryd.prog 102 [.int .i64 (x)] w (fun r w' => r = (.bool false : Value) ∧ Sep G W Rs w') := by
 refine Calls_of_WP (args := [.int .i64 (x)]) Tryd.func102 rfl rfl ?_
 refine WP_seq ?_
 refine WP_region0 (by kernel_rfl) (fun _ => ?_)
 refine st (ov_assign (v := .bool false) rfl ?_)
 refine st_nil ?_
 refine WP_seq ?_
 refine WP_region0 (by kernel_rfl) (fun _ => ?_)
 refine st (ov_move (v := .int .i64 (x)) rfl ?_)
 refine st (ov_move (v := .int .i64 (x)) rfl ?_)
 refine st (ov_neq (k := .i64) (a := x) (b := x) rfl rfl ?_)
 refine st (ov_assign (v := .bool (!decide (x = x))) rfl ?_)
 refine st_nil ?_
 refine WP_ret ?_
 refine fin1 Tryd.results102 (show _ = (.bool (!decide (x = x)) : Value) from rfl) ?_
 refine ⟨?_, hS0⟩
 simp

theorem D_less {G : Nat → Prop} {W w : World} {Rs : List HP} {x : Int} (hx : InR x) {y : Int} (hy : InR y) (hS0 : Sep G W Rs w) : Ret Tryd.prog 101 [.int .i64 (x), .int .i64 (y)] w (fun r w' => r = (.bool (decide (x < y)) : Value) ∧ Sep G W Rs w') := by
 refine Calls_of_WP (args := [.int .i64 (x), .int .i64 (y)]) Tryd.func101 rfl rfl ?_
 refine WP_seq ?_
 refine WP_region0 (by kernel_rfl) (fun _ => ?_)
 refine st (ov_assign (v := .bool false) rfl ?_)
 refine st_nil ?_
 refine WP_seq ?_
 refine WP_region (by kernel_rfl) ?_
 refine st (ov_move (v := .int .i64 (x)) rfl ?_)
 refine st (ov_call (f := 106) (vals := [.int .i64 (x)]) (cap := []) (show _ = (.func (.func 106) #[] #[] : Value) from rfl) rfl Tryd.call106 (D_nan1 (x := x) hx hS0) ?_)
 rintro _ w1 ⟨rfl, hS2⟩
 refine st (ov_move (v := .bool false) rfl ?_)
 refine stx rfl rfl ?_
 refine stx rfl rfl ?_
 refine stx rfl rfl ?_
 refine st (ov_pick_f (v := .bool false) rfl rfl ?_)
 refine st (ov_move (v := .bool false) rfl ?_)
 refine sty rfl rfl (ov_move (v := .int .i64 (x)) rfl ?_)
 refine sty rfl rfl (ov_move (v := .int .i64 (y)) rfl ?_)
 refine sty rfl rfl (ov_lss (k := .i64) (a := x) (b := y) rfl rfl ?_)
 refine st (ov_pick_f (v := .bool (decide (x < y))) rfl rfl ?_)
 refine st (ov_assign (v := .bool (decide (x < y))) rfl ?_)
 refine st_nil ?_
 refine WP_ret ?_
 refine fin1 Tryd.results101 (show _ = (.bool (decide (x < y)) : Value) from rfl) ?_
 refine ⟨?_, hS2⟩
 simp

theorem D_sum {G : Nat → Prop} {W w : World} {Rs : List HP} {x : Int} (hx : InR x) {y : Int} (hy : InR y) (hS0 : Sep G W Rs w) : Ret Tryd.prog 93 [.int .i64 (x), .int .i64 (y)] w (fun r w' => r = (.bool ((decide (x < iwrap (x + y)) == decide (0 < y))) : Value) ∧ Sep G W Rs w') := by
 refine Calls_of_WP (args := [.int .i64 (x), .int .i64 (y)]) Tryd.func93 rfl rfl ?_
 refine WP_seq ?_
 refine WP_region0 (by kernel_rfl) (fun _ => ?_)
 refine st (ov_assign (v := .bool false) rfl ?_)
 refine st_nil ?_
 refine WP_seq ?_
 refine WP_region0 (by kernel_rfl) (fun _ => ?_)
 refine st (ov_move (v := .int .i64 (x)) rfl ?_)
 refine st (ov_move (v := .int .i64 (y)) rfl ?_)
 refine st (ov_add (r := IntKind.i64.wrap (x + y)) (k := .i64) (a := x) (b := y) rfl rfl rfl ?_)
 refine st (ov_move (v := .int .i64 (x)) rfl ?_)
 refine st (ov_gtr (k := .i64) (a := IntKind.i64.wrap (x + y)) (b := x) rfl rfl ?_)
 refine st (ov_move (v := .int .i64 (y)) rfl ?_)
 refine st (ov_gtr (k := .i64) (a := y) (b := 0) rfl rfl ?_)
 refine st (ov_eqlb (a := decide (x < (IntKind.i64.wrap (x + y)))) (b := decide (0 < y)) Tryd.underlying4 rfl rfl ?_)
 refine st (ov_assign (v := .bool ((decide (x < (IntKind.i64.wrap (x + y)))) == (decide (0 < y)))) rfl ?_)
 refine st_nil ?_
 refine WP_ret ?_
 refine fin1 Tryd.results93 (show _ = (.bool ((decide (x < (IntKind.i64.wrap (x + y)))) == (decide (0 < y))) : Value) from rfl) ?_
 refine ⟨?_, hS0⟩
 rfl

theorem el40 : Elem Tryd.prog 40 3 1 8 := ⟨Tryd.underlying40, _, _, rfl, rfl, rfl, rfl, rfl⟩
theorem D_cloneInt {G : Nat → Prop} {W w : World} {Rs : List HP} {vl : Value} {l : List Int} (hl : RdS W G vl l) (hS0 : Sep G W Rs w) : Ret Tryd.prog 54 [vl] w (fun r w' => ∃ (v : Value), r = (v : Value) ∧ Sep G W ((RowE (α := Int) own 3 v l) :: Rs) w') := by
 have hls : l.length * 8 ≤ 140737488355328 := hl.small
 refine Calls_of_WP (args := [vl]) Tryd.func54 rfl rfl ?_
 refine WP_seq ?_
 refine WP_region0 (by kernel_rfl) (fun _ => ?_)
 refine st (ov_assign (v := (.slice none 0 0)) rfl ?_)
 refine st_nil ?_
 refine WP_seq ?_
 refine WP_seq ?_
 refine WP_region0 (by kernel_rfl) (fun _ => ?_)
 refine st (ov_move (v := vl) rfl ?_)
 refine st (ov_eqlNil (v := vl) Tryd.underlying40 rfl hl.sl ?_)
 refine st_nil ?_
 cases hc1 : isNilSl vl
 ·skip
  refine WP_cond_f rfl ?_
  refine WP_skip ?_
  refine WP_seq ?_
  refine WP_region0 (by kernel_rfl) (fun _ => ?_)
  refine st (ov_buildSlice (k := 1) (parts' := []) (c := #[]) Tryd.underlying40 Tryd.sizeOf3 Tryd.zeroValue3 (by decide) rfl (by kernel_rfl) ?_)
  intro w4 b3 hn2
  have hS5 : Sep G W ((Blk b3 #[] 3) :: Rs) w4 := hS0.new hn2
  refine st (ov_move (v := vl) rfl ?_)
  have hS9 : Sep G W ((RowE (α := Int) own 3 (.slice (some ⟨b3, 0, none⟩) 0 0) ([] : List Int)) :: Rs) w4 := Sep.blkRow (src := own) (l := ([] : List Int)) (css := []) hS5 rfl trivial (by first | decide | (simp only [List.length_cons, List.length_nil]; decide))
  have hr10 := hS9.row (i := 0) rfl
  have hr10s : ([] : List Int).length * 8 ≤ 140737488355328 := hr10.2
  refine st (ov_appendS (src := own) (bytes := 8) hS9 el40 rfl rfl hl (by first | omega | (simp only [List.length_append, List.length_cons, List.length_nil, List.length_take, List.length_drop]; omega)) rfl (hq' := fun _ _ h _ _ => own_flat h) ?_)
  intro v7 w6 hS8
  have hS8 : Sep G W ((RowE (α := Int) own 3 v7 l) :: Rs) w6 := hS8
  have hr11 := hS8.row (i := 0) rfl
  have hr11s : l.length * 8 ≤ 140737488355328 := hr11.2
  refine st (ov_assign (v := v7) rfl ?_)
  refine st_nil ?_
  refine WP_ret ?_
  refine fin1 Tryd.results54 (show _ = (v7 : Value) from rfl) ?_
  refine ⟨v7, rfl, hS8⟩
 ·skip
  have hl0 := nil_len hl.sl hc1
  refine WP_cond_t rfl ?_
  refine WP_seq ?_
  refine WP_region0 (by kernel_rfl) (fun _ => ?_)
  refine st (ov_assign (v := (.slice none 0 0)) rfl ?_)
  refine st_nil ?_
  refine WP_ret ?_
  refine fin1 Tryd.results54 (show _ = ((.slice none 0 0) : Value) from rfl) ?_
  have hS12 : Sep G W ((RowE (α := Int) own 3 (.slice none 0 0) ([] : List Int)) :: Rs) w := hS0.rowNil own 3
  have hl1 : l = [] := List.length_eq_zero_iff.1 hl0
  subst hl1
  refine ⟨(.slice none 0 0), rfl, hS12⟩

theorem el26 : Elem Tryd.prog 26 42 2 32 := ⟨Tryd.underlying26, _, _, rfl, rfl, rfl, rfl, rfl⟩
theorem D_cloneCel {G : Nat → Prop} {W w : World} {Rs : List HP} {vl : Value} {l : List Cel} (hl : RdS W G vl l) (hS0 : Sep G W Rs w) : Ret Tryd.prog 53 [vl] w (fun r w' => ∃ (v : Value), r = (v : Value) ∧ Sep G W ((RowE (α := Cel) (shr G W) 42 v l) :: Rs) w') := by
 have hls : l.length * 32 ≤ 140737488355328 := hl.small
 refine Calls_of_WP (args := [vl]) Tryd.func53 rfl rfl ?_
 refine WP_seq ?_
 refine WP_region0 (by kernel_rfl) (fun _ => ?_)
 refine st (ov_assign (v := (.slice none 0 0)) rfl ?_)
 refine st_nil ?_
 refine WP_seq ?_
 refine WP_seq ?_
 refine WP_region0 (by kernel_rfl) (fun _ => ?_)
 refine st (ov_move (v := vl) rfl ?_)
 refine st (ov_eqlNil (v := vl) Tryd.underlying26 rfl hl.sl ?_)
 refine st_nil ?_
 cases hc1 : isNilSl vl
 ·skip
  refine WP_cond_f rfl ?_
  refine WP_skip ?_
  refine WP_seq ?_
  refine WP_region0 (by kernel_rfl) (fun _ => ?_)
  refine st (ov_buildSlice (k := 2) (parts' := []) (c := #[]) Tryd.underlying26 Tryd.sizeOf42 Tryd.zeroValue42 (by decide) rfl (by kernel_rfl) ?_)
  intro w4 b3 hn2
  have hS5 : Sep G W ((Blk b3 #[] 42) :: Rs) w4 := hS0.new hn2
  refine st (ov_move (v := vl) rfl ?_)
  have hS9 : Sep G W ((RowE (α := Cel) (shr G W) 42 (.slice (some ⟨b3, 0, none⟩) 0 0) ([] : List Cel)) :: Rs) w4 := Sep.blkRow (src := (shr G W)) (l := ([] : List Cel)) (css := []) hS5 rfl trivial (by first | decide | (simp only [List.length_cons, List.length_nil]; decide))
  have hr10 := hS9.row (i := 0) rfl
  have hr10s : ([] : List Cel).length * 32 ≤ 140737488355328 := hr10.2
  refine st (ov_appendS (src := (shr G W)) (bytes := 32) hS9 el26 rfl rfl hl (by first | omega | (simp only [List.length_append, List.length_cons, List.length_nil, List.length_take, List.length_drop]; omega)) rfl (hq' := fun _ _ h _ _ => h) ?_)
  intro v7 w6 hS8
  have hS8 : Sep G W ((RowE (α := Cel) (shr G W) 42 v7 l) :: Rs) w6 := hS8
  have hr11 := hS8.row (i := 0) rfl
  have hr11s : l.length * 32 ≤ 140737488355328 := hr11.2
  refine st (ov_assign (v := v7) rfl ?_)
  refine st_nil ?_
  refine WP_ret ?_
  refine fin1 Tryd.results53 (show _ = (v7 : Value) from rfl) ?_
  refine ⟨v7, rfl, hS8⟩
 ·skip
  have hl0 := nil_len hl.sl hc1
  refine WP_cond_t rfl ?_
  refine WP_seq ?_
  refine WP_region0 (by kernel_rfl) (fun _ => ?_)
  refine st (ov_assign (v := (.slice none 0 0)) rfl ?_)
  refine st_nil ?_
  refine WP_ret ?_
  refine fin1 Tryd.results53 (show _ = ((.slice none 0 0) : Value) from rfl) ?_
  have hS12 : Sep G W ((RowE (α := Cel) (shr G W) 42 (.slice none 0 0) ([] : List Cel)) :: Rs) w := hS0.rowNil (shr G W) 42
  have hl1 : l = [] := List.length_eq_zero_iff.1 hl0
  subst hl1
  refine ⟨(.slice none 0 0), rfl, hS12⟩

theorem D_bsearch {G : Nat → Prop} {W w : World} {Rs : List HP} {vl : Value} {l : List Int} (hl : RdS W G vl l) {x : Int} (hx : InR x) (hS0 : Sep G W Rs w) (hasc : Asc l) : Ret Tryd.prog 94 [vl, .int .i64 (x)] w (fun r w' => ∃ (ix : Nat), r = (.tuple #[.int .i64 ((ix : Nat) : Int), .bool (decide (x ∈ l))] : Value) ∧ (ix ≤ l.length ∧ (∀ q, q < ix → l.getD q 0 < x) ∧ (∀ q, ix ≤ q → q < l.length → x ≤ l.getD q 0)) ∧ Sep G W Rs w') := by
 have hls : l.length * 8 ≤ 140737488355328 := hl.small
 refine Calls_of_WP (args := [vl, .int .i64 (x)]) Tryd.func94 rfl rfl ?_
 refine WP_seq ?_
 refine WP_region0 (by kernel_rfl) (fun _ => ?_)
 refine st (ov_assign (v := .int .i64 (0)) rfl ?_)
 refine st (ov_assign (v := .bool false) rfl ?_)
 refine st_nil ?_
 refine WP_seq ?_
 refine WP_region0 (by kernel_rfl) (fun _ => ?_)
 refine st (ov_move (v := vl) rfl ?_)
 refine st (ov_len (n := l.length) Tryd.underlying40 rfl hl.sl ?_)
 refine st (ov_assign (v := .int .i64 ((l.length : Nat) : Int)) rfl ?_)
 refine st_nil ?_
 refine WP_seq ?_
 refine WP_region0 (by kernel_rfl) (fun _ => ?_)
 refine st (ov_move (v := .int .i64 ((l.length : Nat) : Int)) rfl ?_)
 refine st (ov_assign (v := .int .i64 (0)) rfl ?_)
 refine st (ov_assign (v := .int .i64 ((l.length : Nat) : Int)) rfl ?_)
 refine st_nil ?_
 refine WP_seq ?_
 refine WP_block ?_
 refine WP_loop (fun mq σ wq => ∃ (i : Nat) (j : Nat) (ρ : Env), mq = j - i ∧ σ = setAll ρ [(0, vl), (1, .int .i64 (x)), (6, .int .i64 ((l.length : Nat) : Int)), (7, .int .i64 ((i : Nat) : Int)), (8, .int .i64 ((j : Nat) : Int))] ∧ (i ≤ j ∧ j ≤ l.length) ∧ (∀ q, q < i → l.getD q 0 < x) ∧ (∀ q, j ≤ q → q < l.length → x ≤ l.getD q 0) ∧ Sep G W Rs wq) ⟨0, l.length, _, rfl, setAll_self ⟨rfl, rfl, rfl, rfl, rfl, trivial⟩, ⟨Nat.zero_le _, Nat.le_refl _⟩, (fun q h => absurd h (Nat.not_lt_zero q)), (fun q h1 h2 => absurd h2 (by omega)), hS0⟩ ?_
 rintro m2 σ3 w1 ⟨i, j, ρl1, rfl, rfl, hij, hlo, hhi, hS4⟩
 refine WP_seq ?_
 refine WP_seq ?_
 refine WP_region0 (by kernel_rfl) (fun _ => ?_)
 refine st (ov_move (v := .int .i64 ((i : Nat) : Int)) rfl ?_)
 refine st (ov_move (v := .int .i64 ((j : Nat) : Int)) rfl ?_)
 refine st (ov_lss (k := .i64) (a := ((i : Nat) : Int)) (b := ((j : Nat) : Int)) rfl rfl ?_)
 refine st_nil ?_
 cases hc5 : decide (((i : Nat) : Int) < ((j : Nat) : Int))
 ·skip
  have hc5 := of_decide_eq_false hc5
  refine WP_cond_f rfl ?_
  refine WP_exit ?_
  refine blk_exit ?_
  refine WP_seq ?_
  refine WP_region (by kernel_rfl) ?_
  refine st (ov_move (v := .int .i64 ((i : Nat) : Int)) rfl ?_)
  refine st (ov_move (v := .int .i64 ((i : Nat) : Int)) rfl ?_)
  refine st (ov_move (v := .int .i64 ((l.length : Nat) : Int)) rfl ?_)
  refine st (ov_lss (k := .i64) (a := ((i : Nat) : Int)) (b := ((l.length : Nat) : Int)) rfl rfl ?_)
  refine st (ov_move (v := .bool (decide (((i : Nat) : Int) < ((l.length : Nat) : Int)))) rfl ?_)
  cases hg6 : decide (((i : Nat) : Int) < ((l.length : Nat) : Int))
  ·skip
   have hg6r := hg6
   have hg6 := of_decide_eq_false hg6
   refine stx rfl rfl ?_
   refine stx rfl rfl ?_
   refine stx rfl rfl ?_
   refine stx rfl rfl ?_
   refine stx rfl rfl ?_
   refine stx rfl rfl ?_
   refine stx rfl rfl ?_
   refine stu rfl rfl ?_
   refine stu rfl rfl ?_
   refine stu rfl rfl ?_
   refine stu rfl rfl ?_
   refine stu rfl rfl ?_
   refine stu rfl rfl ?_
   refine stu rfl rfl ?_
   refine stu rfl rfl ?_
   refine stu rfl rfl ?_
   refine stx rfl rfl ?_
   refine st (ov_pick_f (v := .bool false) rfl rfl ?_)
   refine st (ov_assign (v := .int .i64 ((i : Nat) : Int)) rfl ?_)
   refine st (ov_assign (v := .bool false) rfl ?_)
   refine st_nil ?_
   refine WP_ret ?_
   refine fin2 Tryd.results94 (show _ = (.int .i64 ((i : Nat) : Int) : Value) from rfl) (show _ = (.bool false : Value) from rfl) ?_
   refine ⟨i, ?_, ?_, hS4⟩
   · have hij2 : i = j := by omega
     subst hij2
     rw [bs_mem hasc hij.2 hlo hhi]
     have hz : (decide (i < l.length) && decide (l.getD i 0 = x)) = false := by first | (rw [Bool.and_eq_true, decide_eq_true_eq, decide_eq_true_eq]; omega) | (rw [Bool.and_eq_false_iff, decide_eq_false_iff_not, decide_eq_false_iff_not]; omega)
     rw [hz]
   · have hij2 : i = j := by omega
     subst hij2
     exact ⟨hij.2, hlo, hhi⟩
  ·skip
   have hg6r := hg6
   have hg6 := of_decide_eq_true hg6
   refine sty rfl rfl (ov_move (v := vl) rfl ?_)
   refine sty rfl rfl (ov_move (v := .int .i64 ((i : Nat) : Int)) rfl ?_)
   have hi7 : i < l.length := by omega
   refine sty rfl rfl (ov_indexAddrN (k := 1) (i := i) Tryd.underlying40 Tryd.sizeOf3 rfl hl.sl rfl hi7 ?_)
   have hi9 : i < l.length := (by first | omega | (simp only [lens]; omega))
   obtain ⟨hce8, hxe8⟩ := hl.int hi9
   rw [← getD_at 0 hi9] at hce8 hxe8
   have hcw10 := hS4.cells hce8 (hl.foot (ne_of_lt hi9))
   refine sty rfl rfl (ov_load1 (v := .int .i64 ((l.getD i 0))) Tryd.isAgg3 rfl (hcw10.get (j := 0) rfl) ?_)
   refine sty rfl rfl (ov_move (v := .int .i64 (x)) rfl ?_)
   refine sty rfl rfl (ov_eql (k := .i64) (a := (l.getD i 0)) (b := x) rfl rfl ?_)
   refine sty rfl rfl (ov_move (v := .bool (decide ((l.getD i 0) = x))) rfl ?_)
   cases hg11 : decide ((l.getD i 0) = x)
   ·skip
    have hg11r := hg11
    have hg11 := of_decide_eq_false hg11
    refine sty rfl rfl (ov_move (v := vl) rfl ?_)
    refine sty rfl rfl (ov_move (v := .int .i64 ((i : Nat) : Int)) rfl ?_)
    have hi12 : i < l.length := (by first | omega | (simp only [lens]; omega))
    refine sty rfl rfl (ov_indexAddrN (k := 1) (i := i) Tryd.underlying40 Tryd.sizeOf3 rfl hl.sl rfl hi12 ?_)
    have hcw14 := hS4.cells hce8 (hl.foot (ne_of_lt hi9))
    refine sty rfl rfl (ov_load1 (v := .int .i64 ((l.getD i 0))) Tryd.isAgg3 rfl (hcw14.get (j := 0) rfl) ?_)
    refine sty rfl rfl (ov_call (f := 102) (vals := [.int .i64 ((l.getD i 0))]) (cap := []) (show _ = (.func (.func 102) #[] #[] : Value) from rfl) rfl Tryd.call102 (D_nan2 (x := (l.getD i 0)) hxe8 hS4) ?_)
    rintro _ w15 ⟨rfl, hS16⟩
    refine sty rfl rfl (ov_move (v := .bool false) rfl ?_)
    refine stx rfl rfl ?_
    refine stx rfl rfl ?_
    refine sty rfl rfl (ov_pick_f (v := .bool false) rfl rfl ?_)
    refine sty rfl rfl (ov_pick_f (v := .bool false) rfl rfl ?_)
    refine st (ov_pick_t (v := .bool false) rfl rfl ?_)
    refine st (ov_assign (v := .int .i64 ((i : Nat) : Int)) rfl ?_)
    refine st (ov_assign (v := .bool false) rfl ?_)
    refine st_nil ?_
    refine WP_ret ?_
    refine fin2 Tryd.results94 (show _ = (.int .i64 ((i : Nat) : Int) : Value) from rfl) (show _ = (.bool false : Value) from rfl) ?_
    refine ⟨i, ?_, ?_, hS16⟩
    · have hij2 : i = j := by omega
      subst hij2
      rw [bs_mem hasc hij.2 hlo hhi]
      have hz : (decide (i < l.length) && decide (l.getD i 0 = x)) = false := by first | (rw [Bool.and_eq_true, decide_eq_true_eq, decide_eq_true_eq]; omega) | (rw [Bool.and_eq_false_iff, decide_eq_false_iff_not, decide_eq_false_iff_not]; omega)
      rw [hz]
    · have hij2 : i = j := by omega
      subst hij2
      exact ⟨hij.2, hlo, hhi⟩
   ·skip
    have hg11r := hg11
    have hg11 := of_decide_eq_true hg11
    refine stx rfl rfl ?_
    refine stx rfl rfl ?_
    refine stx rfl rfl ?_
    refine stx rfl rfl ?_
    refine stx rfl rfl ?_
    refine stx rfl rfl ?_
    refine stu rfl rfl ?_
    refine stu rfl rfl ?_
    refine stx rfl rfl ?_
    refine sty rfl rfl (ov_pick_t (v := .bool true) rfl rfl ?_)
    refine st (ov_pick_t (v := .bool true) rfl rfl ?_)
    refine st (ov_assign (v := .int .i64 ((i : Nat) : Int)) rfl ?_)
    refine st (ov_assign (v := .bool true) rfl ?_)
    refine st_nil ?_
    refine WP_ret ?_
    refine fin2 Tryd.results94 (show _ = (.int .i64 ((i : Nat) : Int) : Value) from rfl) (show _ = (.bool true : Value) from rfl) ?_
    refine ⟨i, ?_, ?_, hS4⟩
    · have hij2 : i = j := by omega
      subst hij2
      rw [bs_mem hasc hij.2 hlo hhi]
      have hz : (decide (i < l.length) && decide (l.getD i 0 = x)) = true := by first | (rw [Bool.and_eq_true, decide_eq_true_eq, decide_eq_true_eq]; omega) | (rw [Bool.and_eq_false_iff, decide_eq_false_iff_not, decide_eq_false_iff_not]; omega)
      rw [hz]
    · have hij2 : i = j := by omega
      subst hij2
      exact ⟨hij.2, hlo, hhi⟩
 ·skip
  have hc5 := of_decide_eq_true hc5
  refine WP_cond_t rfl ?_
  refine WP_skip ?_
  refine WP_block ?_
  refine WP_seq ?_
  refine WP_region0 (by kernel_rfl) (fun _ => ?_)
  refine st (ov_move (v := .int .i64 ((i : Nat) : Int)) rfl ?_)
  refine st (ov_move (v := .int .i64 ((j : Nat) : Int)) rfl ?_)
  have hr17 : InR ((i + j : Nat) : Int) := by first | omega | (simp only [lens]; omega)
  refine st (ov_add (r := ((i + j : Nat) : Int)) (k := .i64) (a := ((i : Nat) : Int)) (b := ((j : Nat) : Int)) rfl rfl (by rw [show (((i : Nat) : Int) + ((j : Nat) : Int) : Int) = ((i + j : Nat) : Int) by first | omega | (simp only [lens]; omega)]; exact wrap_in hr17) ?_)
  refine st (ov_cvt (k := .i64) (k2 := .u64) (a := ((i + j : Nat) : Int)) (r := ((i + j : Nat) : Int)) (by rw [Tryd.underlying3]; rfl) Tryd.underlying143 rfl (wrapU_in ⟨by omega, by omega⟩) ?_)
  refine st (ov_shr (k := .u64) (yk := .u64) (a := ((i + j : Nat) : Int)) (b := 1) (r := (((i + j) / 2 : Nat) : Int)) rfl rfl (by decide) (by decide) (by show ((i + j : Nat) : Int) / (2 : Int) ^ (1 : Nat) = (((i + j) / 2 : Nat) : Int); omega) ?_)
  refine st (ov_cvt (k := .u64) (k2 := .i64) (a := (((i + j) / 2 : Nat) : Int)) (r := (((i + j) / 2 : Nat) : Int)) (by rw [Tryd.underlying143]; rfl) Tryd.underlying3 rfl (wrap_in (by omega)) ?_)
  refine st (ov_assign (v := .int .i64 ((((i + j) / 2 : Nat) : Int))) rfl ?_)
  refine st_nil ?_
  refine WP_seq ?_
  refine WP_region0 (by kernel_rfl) (fun _ => ?_)
  refine st (ov_move (v := vl) rfl ?_)
  refine st (ov_move (v := .int .i64 ((((i + j) / 2 : Nat) : Int))) rfl ?_)
  have hi18 : (i + j) / 2 < l.length := by omega
  refine st (ov_indexAddrN (k := 1) (i := (i + j) / 2) Tryd.underlying40 Tryd.sizeOf3 rfl hl.sl rfl hi18 ?_)
  have hi20 : (i + j) / 2 < l.length := (by first | omega | (simp only [lens]; omega))
  obtain ⟨hce19, hxe19⟩ := hl.int hi20
  rw [← getD_at 0 hi20] at hce19 hxe19
  have hcw21 := hS4.cells hce19 (hl.foot (ne_of_lt hi20))
  refine st (ov_load1 (v := .int .i64 ((l.getD ((i + j) / 2) 0))) Tryd.isAgg3 rfl (hcw21.get (j := 0) rfl) ?_)
  refine st (ov_move (v := .int .i64 (x)) rfl ?_)
  refine st (ov_call (f := 101) (vals := [.int .i64 ((l.getD ((i + j) / 2) 0)), .int .i64 (x)]) (cap := []) (show _ = (.func (.func 101) #[] #[] : Value) from rfl) rfl Tryd.call101 (D_less (x := (l.getD ((i + j) / 2) 0)) (y := x) hxe19 hx hS4) ?_)
  rintro _ w22 ⟨rfl, hS23⟩
  refine st_nil ?_
  cases hc24 : decide ((l.getD ((i + j) / 2) 0) < x)
  ·skip
   have hc24 := of_decide_eq_false hc24
   refine WP_cond_f rfl ?_
   refine WP_region0 (by kernel_rfl) (fun _ => ?_)
   refine st (ov_move (v := .int .i64 ((((i + j) / 2 : Nat) : Int))) rfl ?_)
   refine st (ov_assign (v := .int .i64 ((((i + j) / 2 : Nat) : Int))) rfl ?_)
   refine st_nil ?_
   exact ⟨_, by omega, i, (i + j) / 2, _, rfl, setAll_self ⟨rfl, rfl, rfl, rfl, rfl, trivial⟩, by omega, hlo, (bs_hi hasc (by omega) hc24), hS23⟩
  ·skip
   have hc24 := of_decide_eq_true hc24
   refine WP_cond_t rfl ?_
   refine WP_region0 (by kernel_rfl) (fun _ => ?_)
   refine st (ov_move (v := .int .i64 ((((i + j) / 2 : Nat) : Int))) rfl ?_)
   have hr25 : InR (((i + j) / 2 + 1 : Nat) : Int) := by first | omega | (simp only [lens]; omega)
   refine st (ov_add (r := (((i + j) / 2 + 1 : Nat) : Int)) (k := .i64) (a := (((i + j) / 2 : Nat) : Int)) (b := 1) rfl rfl (by rw [show ((((i + j) / 2 : Nat) : Int) + 1 : Int) = (((i + j) / 2 + 1 : Nat) : Int) by first | omega | (simp only [lens]; omega)]; exact wrap_in hr25) ?_)
   refine st (ov_assign (v := .int .i64 (((i + j) / 2 + 1 : Nat) : Int)) rfl ?_)
   refine st_nil ?_
   exact ⟨_, by omega, (i + j) / 2 + 1, j, _, rfl, setAll_self ⟨rfl, rfl, rfl, rfl, rfl, trivial⟩, by omega, (bs_lo hasc (by omega) hc24), hhi, hS23⟩

end Go.Proofs.YtlblilbmpdejgaaDoor
