/- Steps of the proofs of this seat: part S0. -/
import Derived.Test.YtbbpmhfcgoljdaaProg
import Derived.Test.YtbbpmhfcgoljdaaRecs
import Derived.Test.YtbbpmhfcgoljdaaSep
import Derived.Test.YtbbpmhfcgoljdaaRowE2
import Derived.Test.YtbbpmhfcgoljdaaDraw4
set_option linter.unusedSimpArgs false
set_option linter.unusedVariables false
namespace Go.Proofs.Ytbbpmhfcgoljdaa
open Go.Proofs Go.RowKit

instance : Flat Row := ⟨fun h => h⟩
instance : Flat Prj := ⟨fun h => h⟩
/-- The reference's object. -/
def RefO (a : Nat) (p : Prj) (l : List Row) : HP := And1 p.Ok (Ex1 fun v => Star [Blk a #[.int .i64 (p.ptyp), .int .i64 (p.pfield), .int .i64 (p.pgroup), .int .i64 (p.pby), .int .i64 (p.pmake), v] 60, RowE (α := Row) own 31 v l])
theorem RefO.open {G : Nat → Prop} {W w : World} {As : List HP} {a : Nat} {p : Prj} {l : List Row} (h : Sep G W (RefO a p l :: As) w) : p.Ok ∧ ∃ v, Sep G W (Blk a #[.int .i64 (p.ptyp), .int .i64 (p.pfield), .int .i64 (p.pgroup), .int .i64 (p.pby), .int .i64 (p.pmake), v] 60 :: RowE (α := Row) own 31 v l :: As) w := by
  obtain ⟨h1, h2⟩ := h.openAnd
  obtain ⟨v, h3⟩ := h2.openEx
  exact ⟨h1, v, h3.openStar⟩
theorem RefO.close {G : Nat → Prop} {W w : World} {As : List HP} {a : Nat} {p : Prj} {v : Value} {l : List Row} (hp : p.Ok) (h : Sep G W (Blk a #[.int .i64 (p.ptyp), .int .i64 (p.pfield), .int .i64 (p.pgroup), .int .i64 (p.pby), .int .i64 (p.pmake), v] 60 :: RowE (α := Row) own 31 v l :: As) w) : Sep G W (RefO a p l :: As) w :=
  Sep.closeAnd hp (Sep.closeEx (A := fun v => Star [Blk a #[.int .i64 (p.ptyp), .int .i64 (p.pfield), .int .i64 (p.pgroup), .int .i64 (p.pby), .int .i64 (p.pmake), v] 60, RowE (α := Row) own 31 v l]) v (Sep.closeStar (Bs := [Blk a #[.int .i64 (p.ptyp), .int .i64 (p.pfield), .int .i64 (p.pgroup), .int .i64 (p.pby), .int .i64 (p.pmake), v] 60, RowE (α := Row) own 31 v l]) h))

theorem D_refNew {G : Nat → Prop} {W w : World} {Rs : List HP} {p : Prj} (op : p.Ok) (hS0 : Sep G W Rs w) : Ret Try.prog 18 [.agg (p.cells).toArray] w (fun r w' => ∃ (a : Nat), r = (.pointer (some ⟨a, 0, none⟩) : Value) ∧ Sep G W ((RefO a p ([] : List Row)) :: Rs) w') := by
  refine Calls_of_WP (args := [.agg (p.cells).toArray]) Try.func18 rfl rfl ?_
  refine WP_seq ?_
  refine WP_region0 (by kernel_rfl) (fun _ => ?_)
  refine st (ov_box (v := .agg (p.cells).toArray) rfl ?_)
  intro w3 b2 hn1
  have hS4 : Sep G W ((Blk b2 (p.cells).toArray 23) :: Rs) w3 := hS0.new hn1
  refine st (ov_assign (v := .pointer none) rfl ?_)
  refine st_nil ?_
  refine WP_seq ?_
  refine WP_region0 (by kernel_rfl) (fun _ => ?_)
  refine st (ov_loadk (k := 5) Try.isAgg23 Try.sizeOf23 rfl rfl (CellsAt.all (hS4.blk (i := 0) rfl)) ?_)
  refine st (ov_build (parts' := [(0, .agg (p.cells).toArray)]) (v := .agg #[.int .i64 (p.ptyp), .int .i64 (p.pfield), .int .i64 (p.pgroup), .int .i64 (p.pby), .int .i64 (p.pmake), (.slice none 0 0)]) rfl (by simp [Instr.build, Instr.fill, Ev.cells, go_sem, Ev.cells, Ent.cells, Row.cells, Prj.cells]) ?_)
  refine st (ov_box (v := .agg #[.int .i64 (p.ptyp), .int .i64 (p.pfield), .int .i64 (p.pgroup), .int .i64 (p.pby), .int .i64 (p.pmake), (.slice none 0 0)]) rfl ?_)
  intro w7 b6 hn5
  have hS8 : Sep G W ((Blk b6 #[.int .i64 (p.ptyp), .int .i64 (p.pfield), .int .i64 (p.pgroup), .int .i64 (p.pby), .int .i64 (p.pmake), (.slice none 0 0)] 60) :: (Blk b2 (p.cells).toArray 23) :: Rs) w7 := hS4.new hn5
  refine st (ov_assign (v := .pointer (some ⟨b6, 0, none⟩)) rfl ?_)
  refine st_nil ?_
  refine WP_ret ?_
  refine fin1 Try.results18 (show _ = (.pointer (some ⟨b6, 0, none⟩) : Value) from rfl) ?_
  have hS9 : Sep G W ((RowE (α := Row) own 31 (.slice none 0 0) ([] : List Row)) :: (Blk b6 #[.int .i64 (p.ptyp), .int .i64 (p.pfield), .int .i64 (p.pgroup), .int .i64 (p.pby), .int .i64 (p.pmake), (.slice none 0 0)] 60) :: (Blk b2 (p.cells).toArray 23) :: Rs) w7 := hS8.rowNil own 31
  have hS10 : Sep G W ((Blk b6 #[.int .i64 (p.ptyp), .int .i64 (p.pfield), .int .i64 (p.pgroup), .int .i64 (p.pby), .int .i64 (p.pmake), (.slice none 0 0)] 60) :: (RowE (α := Row) own 31 (.slice none 0 0) ([] : List Row)) :: (Blk b2 (p.cells).toArray 23) :: Rs) w7 := hS9.sel 3 [1, 0, 2] (Nat.le_add_left _ _) rfl rfl
  have hS11 : Sep G W ((RefO b6 p ([] : List Row)) :: (Blk b2 (p.cells).toArray 23) :: Rs) w7 := RefO.close (v := (.slice none 0 0)) op hS10
  have hS12 : Sep G W ((RefO b6 p ([] : List Row)) :: Rs) w7 := hS11.sel 2 [0] (Nat.le_add_left _ _) rfl rfl
  refine ⟨b6, rfl, hS12⟩

theorem fd60_1 {d : Option Tmp} {ty : TypeId} {pos : String} {af : Array Edge} {g : Option (Nat × Bool)} {σ : Env} {w : World} {K : Value → World → Prop} {x : Operand} {b o : Nat} (hx : ev σ x = .pointer (some ⟨b, o, none⟩)) (h : K (.pointer (some ⟨b, o + 5, none⟩)) w) : opV Try.prog ⟨d, .fieldAddr 60 x 1, ty, pos, af, g⟩ σ w K := ov_fieldAddr Try.underlying60 rfl rfl (fun w => ⟨0, Try.sizeOf28 w⟩) hx h
theorem el28 : Elem Try.prog 28 31 3 24 := ⟨Try.underlying28, _, _, rfl, rfl, rfl, rfl, rfl⟩
theorem D_refList {G : Nat → Prop} {W w : World} {Rs : List HP} {a : Nat} {p : Prj} {l : List Row} (hS0 : Sep G W ((RefO a p l) :: Rs) w) : Ret Try.prog 24 [.pointer (some ⟨a, 0, none⟩)] w (fun r w' => ∃ (v : Value), r = (v : Value) ∧ Sep G W ((RefO a p l) :: (RowE (α := Row) own 31 v l) :: Rs) w') := by
  refine Calls_of_WP (args := [.pointer (some ⟨a, 0, none⟩)]) Try.func24 rfl rfl ?_
  obtain ⟨op1, v2, hS3⟩ := RefO.open hS0
  have hr4 := hS3.row (i := 1) rfl
  have hr4s : l.length * 24 ≤ 140737488355328 := hr4.2
  have hS3t : Sep G W ((Blk a #[.int .i64 (p.ptyp), .int .i64 (p.pfield), .int .i64 (p.pgroup), .int .i64 (p.pby), .int .i64 (p.pmake), v2] 60) :: (RowE (α := Row) own 31 v2 l) :: Rs) w := hS3
  refine WP_seq ?_
  refine WP_region0 (by kernel_rfl) (fun _ => ?_)
  refine st (ov_assign (v := (.slice none 0 0)) rfl ?_)
  refine st_nil ?_
  refine WP_seq ?_
  refine WP_region0 (by kernel_rfl) (fun _ => ?_)
  refine st (ov_assign (v := (.slice none 0 0)) rfl ?_)
  refine st_nil ?_
  refine WP_seq ?_
  refine WP_seq ?_
  refine WP_region0 (by kernel_rfl) (fun _ => ?_)
  refine st (ov_assign (v := .int .i64 (0)) rfl ?_)
  refine st_nil ?_
  refine WP_block ?_
  have hS5 : Sep G W ((RowE (α := Row) own 31 (.slice none 0 0) ([] : List Row)) :: (Blk a #[.int .i64 (p.ptyp), .int .i64 (p.pfield), .int .i64 (p.pgroup), .int .i64 (p.pby), .int .i64 (p.pmake), v2] 60) :: (RowE (α := Row) own 31 v2 l) :: Rs) w := hS3t.rowNil own 31
  refine WP_loop (fun mq σ wq => ∃ (k : Nat) (vo : Value) (ρ : Env), mq = l.length - k ∧ σ = setAll ρ [(0, .pointer (some ⟨a, 0, none⟩)), (4, .int .i64 ((k : Nat) : Int)), (3, vo)] ∧ (k ≤ l.length) ∧ Sep G W ((RowE (α := Row) own 31 vo (l.take k)) :: (Blk a #[.int .i64 (p.ptyp), .int .i64 (p.pfield), .int .i64 (p.pgroup), .int .i64 (p.pby), .int .i64 (p.pmake), v2] 60) :: (RowE (α := Row) own 31 v2 l) :: Rs) wq) ⟨0, (.slice none 0 0), _, rfl, setAll_self ⟨rfl, rfl, rfl, trivial⟩, Nat.zero_le _, hS5⟩ ?_
  rintro m7 σ8 w6 ⟨k, vo, ρl1, rfl, rfl, hkk, hS9⟩
  have hr10 := hS9.row (i := 0) rfl
  have hr10s : (l.take k).length * 24 ≤ 140737488355328 := hr10.2
  refine WP_seq ?_
  refine WP_seq ?_
  refine WP_region0 (by kernel_rfl) (fun _ => ?_)
  refine st (ov_move (v := .int .i64 ((k : Nat) : Int)) rfl ?_)
  refine st (ov_move (v := .pointer (some ⟨a, 0, none⟩)) rfl ?_)
  refine st (ov_nilCheck (b := a) (o := 0) rfl ?_)
  refine st (fd60_1 rfl ?_)
  refine st (ov_load1 (v := v2) Try.isAgg28 rfl (blk_cellL (hS9.blk (i := 1) rfl) rfl) ?_)
  refine st (ov_len (n := l.length) Try.underlying28 rfl hr4.1 ?_)
  refine st (ov_lss (k := .i64) (a := ((k : Nat) : Int)) (b := ((l.length : Nat) : Int)) rfl rfl ?_)
  refine st_nil ?_
  cases hc11 : decide (((k : Nat) : Int) < ((l.length : Nat) : Int))
  · skip
    have hc11 := of_decide_eq_false hc11
    refine WP_cond_f rfl ?_
    refine WP_exit ?_
    refine blk_exit ?_
    refine WP_seq ?_
    refine WP_region0 (by kernel_rfl) (fun _ => ?_)
    refine st (ov_move (v := vo) rfl ?_)
    refine st (ov_assign (v := vo) rfl ?_)
    refine st_nil ?_
    refine WP_ret ?_
    refine fin1 Try.results24 (show _ = (vo : Value) from rfl) ?_
    have hS12 : Sep G W ((Blk a #[.int .i64 (p.ptyp), .int .i64 (p.pfield), .int .i64 (p.pgroup), .int .i64 (p.pby), .int .i64 (p.pmake), v2] 60) :: (RowE (α := Row) own 31 v2 l) :: (RowE (α := Row) own 31 vo (l.take k)) :: Rs) w6 := hS9.sel 3 [1, 2, 0] (Nat.le_add_left _ _) rfl rfl
    have hS13 : Sep G W ((RefO a p l) :: (RowE (α := Row) own 31 vo (l.take k)) :: Rs) w6 := RefO.close (v := v2) op1 hS12
    have hk : k = l.length := by omega
    subst hk
    rw [List.take_of_length_le (Nat.le_refl l.length)] at hS13
    refine ⟨vo, rfl, hS13⟩
  · skip
    have hc11 := of_decide_eq_true hc11
    refine WP_cond_t rfl ?_
    refine WP_skip ?_
    refine WP_seq ?_
    refine WP_block ?_
    refine WP_region0 (by kernel_rfl) (fun _ => ?_)
    refine st (ov_move (v := vo) rfl ?_)
    refine st (ov_move (v := .pointer (some ⟨a, 0, none⟩)) rfl ?_)
    refine st (ov_nilCheck (b := a) (o := 0) rfl ?_)
    refine st (fd60_1 rfl ?_)
    refine st (ov_load1 (v := v2) Try.isAgg28 rfl (blk_cellL (hS9.blk (i := 1) rfl) rfl) ?_)
    refine st (ov_move (v := .int .i64 ((k : Nat) : Int)) rfl ?_)
    have hi14 : k < l.length := (by first | omega | (simp only [List.length_append, List.length_cons, List.length_nil, List.length_take, List.length_drop, List.length_set, List.length_replicate]; omega))
    refine st (ov_indexAddrN (k := 3) (i := k) Try.underlying28 Try.sizeOf31 rfl hr4.1 rfl hi14 ?_)
    have hi16 : k < l.length := (by first | omega | (simp only [List.length_append, List.length_cons, List.length_nil, List.length_take, List.length_drop, List.length_set, List.length_replicate]; omega))
    obtain ⟨_, _, hce15, rfl, hoke15⟩ := hS9.rowAt (i := 2) (j := k) rfl hi16
    rw [← getD_at default hi16] at hce15 hoke15
    refine st (ov_loadk (k := 3) Try.isAgg31 Try.sizeOf31 rfl rfl hce15 ?_)
    refine st (ov_buildSlice (k := 3) (parts' := [(0, .agg ((l.getD k default).cells).toArray)]) (c := ((l.getD k default).cells).toArray) Try.underlying28 Try.sizeOf31 Try.zeroValue31 (by decide) rfl (by kernel_rfl) ?_)
    intro w19 b18 hn17
    have hS20 : Sep G W ((Blk b18 ((l.getD k default).cells).toArray 31) :: (RowE (α := Row) own 31 vo (l.take k)) :: (Blk a #[.int .i64 (p.ptyp), .int .i64 (p.pfield), .int .i64 (p.pgroup), .int .i64 (p.pby), .int .i64 (p.pmake), v2] 60) :: (RowE (α := Row) own 31 v2 l) :: Rs) w19 := hS9.new hn17
    have hbk24 := hS20.blk (i := 0) rfl
    have hS25 : Sep G W ((RowE (α := Row) own 31 vo (l.take k)) :: (Blk a #[.int .i64 (p.ptyp), .int .i64 (p.pfield), .int .i64 (p.pgroup), .int .i64 (p.pby), .int .i64 (p.pmake), v2] 60) :: (RowE (α := Row) own 31 v2 l) :: Rs) w19 := hS20.sel 4 [1, 2, 3] (Nat.le_add_left _ _) rfl rfl
    have hS26 : Sep G W ((RowE (α := Row) own 31 vo (l.take k)) :: Emp :: (Blk a #[.int .i64 (p.ptyp), .int .i64 (p.pfield), .int .i64 (p.pgroup), .int .i64 (p.pby), .int .i64 (p.pmake), v2] 60) :: (RowE (α := Row) own 31 v2 l) :: Rs) w19 := hS25.emp1
    refine st (ov_append1S (src := own) (bytes := 24) (x1 := (l.getD k default)) hS26 el28 rfl rfl hbk24 (fun _ _ _ => (show _ from ⟨rfl, hoke15⟩)) (by first | omega | (simp only [List.length_append, List.length_cons, List.length_nil, List.length_take, List.length_drop]; omega)) rfl ?_)
    intro v22 w21 hS23
    have hr27 := hS23.row (i := 0) rfl
    have hr27s : (l.take k ++ [(l.getD k default)]).length * 24 ≤ 140737488355328 := hr27.2
    refine st (ov_assign (v := v22) rfl ?_)
    refine st_nil ?_
    refine WP_region0 (by kernel_rfl) (fun _ => ?_)
    refine st (ov_move (v := .int .i64 ((k : Nat) : Int)) rfl ?_)
    have hr28 : InR ((k + 1 : Nat) : Int) := by first | omega | (simp only [List.length_append, List.length_cons, List.length_nil, List.length_take, List.length_drop, List.length_set, List.length_replicate]; omega)
    refine st (ov_add (r := ((k + 1 : Nat) : Int)) (k := .i64) (a := ((k : Nat) : Int)) (b := 1) rfl rfl (by rw [show (((k : Nat) : Int) + 1 : Int) = ((k + 1 : Nat) : Int) by first | omega | (simp only [List.length_append, List.length_cons, List.length_nil, List.length_take, List.length_drop, List.length_set, List.length_replicate]; omega)]; exact wrap_in hr28) ?_)
    refine st (ov_assign (v := .int .i64 ((k + 1 : Nat) : Int)) rfl ?_)
    refine st_nil ?_
    have hL29 : l.take (k + 1) = l.take k ++ [(l.getD k default)] := (List.take_getD (by omega))
    rw [← hL29] at hS23
    exact ⟨_, by omega, k + 1, v22, _, rfl, setAll_self ⟨rfl, rfl, rfl, trivial⟩, by omega, hS23⟩

theorem fd60_0 {d : Option Tmp} {ty : TypeId} {pos : String} {af : Array Edge} {g : Option (Nat × Bool)} {σ : Env} {w : World} {K : Value → World → Prop} {x : Operand} {b o : Nat} (hx : ev σ x = .pointer (some ⟨b, o, none⟩)) (h : K (.pointer (some ⟨b, o + 0, none⟩)) w) : opV Try.prog ⟨d, .fieldAddr 60 x 0, ty, pos, af, g⟩ σ w K := ov_fieldAddr Try.underlying60 rfl rfl (fun w => ⟨4, Try.sizeOf23 w⟩) hx h
theorem D_refCopy {G : Nat → Prop} {W w : World} {Rs : List HP} {a : Nat} {p : Prj} {l : List Row} (hS0 : Sep G W ((RefO a p l) :: Rs) w) : Ret Try.prog 22 [.pointer (some ⟨a, 0, none⟩)] w (fun r w' => ∃ (a2 : Nat), r = (.pointer (some ⟨a2, 0, none⟩) : Value) ∧ Sep G W ((RefO a p l) :: (RefO a2 p l) :: Rs) w') := by
  refine Calls_of_WP (args := [.pointer (some ⟨a, 0, none⟩)]) Try.func22 rfl rfl ?_
  obtain ⟨op1, v2, hS3⟩ := RefO.open hS0
  have hr4 := hS3.row (i := 1) rfl
  have hr4s : l.length * 24 ≤ 140737488355328 := hr4.2
  have hS3t : Sep G W ((Blk a #[.int .i64 (p.ptyp), .int .i64 (p.pfield), .int .i64 (p.pgroup), .int .i64 (p.pby), .int .i64 (p.pmake), v2] 60) :: (RowE (α := Row) own 31 v2 l) :: Rs) w := hS3
  refine WP_seq ?_
  refine WP_region0 (by kernel_rfl) (fun _ => ?_)
  refine st (ov_assign (v := .pointer none) rfl ?_)
  refine st_nil ?_
  refine WP_seq ?_
  refine WP_region0 (by kernel_rfl) (fun _ => ?_)
  refine st (ov_move (v := .pointer (some ⟨a, 0, none⟩)) rfl ?_)
  refine st (ov_nilCheck (b := a) (o := 0) rfl ?_)
  refine st (fd60_0 rfl ?_)
  have ok5 : Prj.Ok p := ⟨(show InR (p.ptyp) from op1.ptyp), (show InR (p.pfield) from op1.pfield), (show InR (p.pgroup) from op1.pgroup), (show InR (p.pby) from op1.pby), (show InR (p.pmake) from op1.pmake)⟩
  refine st (ov_loadk (k := 5) (cs := [.int .i64 (p.ptyp), .int .i64 (p.pfield), .int .i64 (p.pgroup), .int .i64 (p.pby), .int .i64 (p.pmake)]) Try.isAgg23 Try.sizeOf23 rfl rfl (CellsAt.sub (CellsAt.all (hS3t.blk (i := 0) rfl)) 0 (cs2 := [.int .i64 (p.ptyp), .int .i64 (p.pfield), .int .i64 (p.pgroup), .int .i64 (p.pby), .int .i64 (p.pmake)]) rfl) ?_)
  refine st (ov_build (parts' := [(0, .agg (p.cells).toArray)]) (v := .agg #[.int .i64 (p.ptyp), .int .i64 (p.pfield), .int .i64 (p.pgroup), .int .i64 (p.pby), .int .i64 (p.pmake), (.slice none 0 0)]) rfl (by simp [Instr.build, Instr.fill, Ev.cells, go_sem, Ev.cells, Ent.cells, Row.cells, Prj.cells]) ?_)
  refine st (ov_box (v := .agg #[.int .i64 (p.ptyp), .int .i64 (p.pfield), .int .i64 (p.pgroup), .int .i64 (p.pby), .int .i64 (p.pmake), (.slice none 0 0)]) rfl ?_)
  intro w8 b7 hn6
  have hS9 : Sep G W ((Blk b7 #[.int .i64 (p.ptyp), .int .i64 (p.pfield), .int .i64 (p.pgroup), .int .i64 (p.pby), .int .i64 (p.pmake), (.slice none 0 0)] 60) :: (Blk a #[.int .i64 (p.ptyp), .int .i64 (p.pfield), .int .i64 (p.pgroup), .int .i64 (p.pby), .int .i64 (p.pmake), v2] 60) :: (RowE (α := Row) own 31 v2 l) :: Rs) w8 := hS3t.new hn6
  refine st (ov_assign (v := .pointer (some ⟨b7, 0, none⟩)) rfl ?_)
  refine st_nil ?_
  refine WP_seq ?_
  refine WP_seq ?_
  refine WP_region0 (by kernel_rfl) (fun _ => ?_)
  refine st (ov_assign (v := .int .i64 (0)) rfl ?_)
  refine st_nil ?_
  refine WP_block ?_
  have hS10 : Sep G W ((RowE (α := Row) own 31 (.slice none 0 0) ([] : List Row)) :: (Blk b7 #[.int .i64 (p.ptyp), .int .i64 (p.pfield), .int .i64 (p.pgroup), .int .i64 (p.pby), .int .i64 (p.pmake), (.slice none 0 0)] 60) :: (Blk a #[.int .i64 (p.ptyp), .int .i64 (p.pfield), .int .i64 (p.pgroup), .int .i64 (p.pby), .int .i64 (p.pmake), v2] 60) :: (RowE (α := Row) own 31 v2 l) :: Rs) w8 := hS9.rowNil own 31
  refine WP_loop (fun mq σ wq => ∃ (k : Nat) (vo : Value) (ρ : Env), mq = l.length - k ∧ σ = setAll ρ [(0, .pointer (some ⟨a, 0, none⟩)), (3, .pointer (some ⟨b7, 0, none⟩)), (4, .int .i64 ((k : Nat) : Int))] ∧ (k ≤ l.length) ∧ Sep G W ((RowE (α := Row) own 31 vo (l.take k)) :: (Blk b7 #[.int .i64 (p.ptyp), .int .i64 (p.pfield), .int .i64 (p.pgroup), .int .i64 (p.pby), .int .i64 (p.pmake), vo] 60) :: (Blk a #[.int .i64 (p.ptyp), .int .i64 (p.pfield), .int .i64 (p.pgroup), .int .i64 (p.pby), .int .i64 (p.pmake), v2] 60) :: (RowE (α := Row) own 31 v2 l) :: Rs) wq) ⟨0, (.slice none 0 0), _, rfl, setAll_self ⟨rfl, rfl, rfl, trivial⟩, Nat.zero_le _, hS10⟩ ?_
  rintro m12 σ13 w11 ⟨k, vo, ρl1, rfl, rfl, hkk, hS14⟩
  have hr15 := hS14.row (i := 0) rfl
  have hr15s : (l.take k).length * 24 ≤ 140737488355328 := hr15.2
  refine WP_seq ?_
  refine WP_seq ?_
  refine WP_region0 (by kernel_rfl) (fun _ => ?_)
  refine st (ov_move (v := .int .i64 ((k : Nat) : Int)) rfl ?_)
  refine st (ov_move (v := .pointer (some ⟨a, 0, none⟩)) rfl ?_)
  refine st (ov_nilCheck (b := a) (o := 0) rfl ?_)
  refine st (fd60_1 rfl ?_)
  refine st (ov_load1 (v := v2) Try.isAgg28 rfl (blk_cellL (hS14.blk (i := 2) rfl) rfl) ?_)
  refine st (ov_len (n := l.length) Try.underlying28 rfl hr4.1 ?_)
  refine st (ov_lss (k := .i64) (a := ((k : Nat) : Int)) (b := ((l.length : Nat) : Int)) rfl rfl ?_)
  refine st_nil ?_
  cases hc16 : decide (((k : Nat) : Int) < ((l.length : Nat) : Int))
  · skip
    have hc16 := of_decide_eq_false hc16
    refine WP_cond_f rfl ?_
    refine WP_exit ?_
    refine blk_exit ?_
    refine WP_seq ?_
    refine WP_region0 (by kernel_rfl) (fun _ => ?_)
    refine st (ov_move (v := .pointer (some ⟨b7, 0, none⟩)) rfl ?_)
    refine st (ov_assign (v := .pointer (some ⟨b7, 0, none⟩)) rfl ?_)
    refine st_nil ?_
    refine WP_ret ?_
    refine fin1 Try.results22 (show _ = (.pointer (some ⟨b7, 0, none⟩) : Value) from rfl) ?_
    have hS17 : Sep G W ((Blk a #[.int .i64 (p.ptyp), .int .i64 (p.pfield), .int .i64 (p.pgroup), .int .i64 (p.pby), .int .i64 (p.pmake), v2] 60) :: (RowE (α := Row) own 31 v2 l) :: (RowE (α := Row) own 31 vo (l.take k)) :: (Blk b7 #[.int .i64 (p.ptyp), .int .i64 (p.pfield), .int .i64 (p.pgroup), .int .i64 (p.pby), .int .i64 (p.pmake), vo] 60) :: Rs) w11 := hS14.sel 4 [2, 3, 0, 1] (Nat.le_add_left _ _) rfl rfl
    have hS18 : Sep G W ((RefO a p l) :: (RowE (α := Row) own 31 vo (l.take k)) :: (Blk b7 #[.int .i64 (p.ptyp), .int .i64 (p.pfield), .int .i64 (p.pgroup), .int .i64 (p.pby), .int .i64 (p.pmake), vo] 60) :: Rs) w11 := RefO.close (v := v2) ok5 hS17
    have hS19 : Sep G W ((Blk b7 #[.int .i64 (p.ptyp), .int .i64 (p.pfield), .int .i64 (p.pgroup), .int .i64 (p.pby), .int .i64 (p.pmake), vo] 60) :: (RowE (α := Row) own 31 vo (l.take k)) :: (RefO a p l) :: Rs) w11 := hS18.sel 3 [2, 1, 0] (Nat.le_add_left _ _) rfl rfl
    have hS20 : Sep G W ((RefO b7 p (l.take k)) :: (RefO a p l) :: Rs) w11 := RefO.close (v := vo) ok5 hS19
    have hS21 : Sep G W ((RefO a p l) :: (RefO b7 p (l.take k)) :: Rs) w11 := hS20.sel 2 [1, 0] (Nat.le_add_left _ _) rfl rfl
    have hk : k = l.length := by omega
    subst hk
    rw [List.take_of_length_le (Nat.le_refl l.length)] at hS21
    refine ⟨b7, rfl, hS21⟩
  · skip
    have hc16 := of_decide_eq_true hc16
    refine WP_cond_t rfl ?_
    refine WP_skip ?_
    refine WP_seq ?_
    refine WP_block ?_
    refine WP_draw4 (WF [fun vals wq => Sep G W ((RowE (α := Row) own 31 vo (l.take k)) :: (Blk b7 #[.int .i64 (p.ptyp), .int .i64 (p.pfield), .int .i64 (p.pgroup), .int .i64 (p.pby), .int .i64 (p.pmake), vo] 60) :: (Blk a #[.int .i64 (p.ptyp), .int .i64 (p.pfield), .int .i64 (p.pgroup), .int .i64 (p.pby), .int .i64 (p.pmake), v2] 60) :: (RowE (α := Row) own 31 v2 l) :: Rs) wq, fun vals wq => ∃ (b119 : Nat), (vals 12 = ((.slice (some ⟨b119, 0, none⟩) 1 1) : Value)) ∧ Sep G W ((Blk b119 ((l.getD k default).cells).toArray 31) :: (RowE (α := Row) own 31 vo (l.take k)) :: (Blk b7 #[.int .i64 (p.ptyp), .int .i64 (p.pfield), .int .i64 (p.pgroup), .int .i64 (p.pby), .int .i64 (p.pmake), vo] 60) :: (Blk a #[.int .i64 (p.ptyp), .int .i64 (p.pfield), .int .i64 (p.pgroup), .int .i64 (p.pby), .int .i64 (p.pmake), v2] 60) :: (RowE (α := Row) own 31 v2 l) :: Rs) wq, fun vals wq => ∃ (b119 : Nat) (v132 : Value), (vals 12 = ((.slice (some ⟨b119, 0, none⟩) 1 1) : Value)) ∧ (vals 13 = (v132 : Value)) ∧ Sep G W ((RowE (α := Row) own 31 v132 (l.take k ++ [(l.getD k default)])) :: (Blk b7 #[.int .i64 (p.ptyp), .int .i64 (p.pfield), .int .i64 (p.pgroup), .int .i64 (p.pby), .int .i64 (p.pmake), vo] 60) :: (Blk a #[.int .i64 (p.ptyp), .int .i64 (p.pfield), .int .i64 (p.pgroup), .int .i64 (p.pby), .int .i64 (p.pmake), v2] 60) :: (RowE (α := Row) own 31 v2 l) :: Rs) wq, fun vals wq => ∃ (b119 : Nat) (v132 : Value), (vals 12 = ((.slice (some ⟨b119, 0, none⟩) 1 1) : Value)) ∧ (vals 13 = (v132 : Value)) ∧ Sep G W ((RowE (α := Row) own 31 v132 (l.take k ++ [(l.getD k default)])) :: (Blk b7 #[.int .i64 (p.ptyp), .int .i64 (p.pfield), .int .i64 (p.pgroup), .int .i64 (p.pby), .int .i64 (p.pmake), v132] 60) :: (Blk a #[.int .i64 (p.ptyp), .int .i64 (p.pfield), .int .i64 (p.pgroup), .int .i64 (p.pby), .int .i64 (p.pmake), v2] 60) :: (RowE (α := Row) own 31 v2 l) :: Rs) wq]) (AF [fun vals => vals 0 = (.pointer (some ⟨b7, 0, none⟩) : Value), fun vals => vals 1 = (.pointer (some ⟨b7, 0, none⟩) : Value), fun vals => vals 2 = (.pointer (some ⟨b7, 0, none⟩) : Value), fun vals => vals 3 = (.pointer (some ⟨b7, 5, none⟩) : Value), fun vals => vals 4 = (vo : Value), fun vals => vals 5 = (.pointer (some ⟨a, 0, none⟩) : Value), fun vals => vals 6 = (.pointer (some ⟨a, 0, none⟩) : Value), fun vals => vals 7 = (.pointer (some ⟨a, 5, none⟩) : Value), fun vals => vals 8 = (v2 : Value), fun vals => vals 9 = (.int .i64 ((k : Nat) : Int) : Value), fun vals => vals 10 = (.pointer (some ⟨sb v2, so v2 + k * 3, none⟩) : Value), fun vals => vals 11 = (.agg ((l.getD k default).cells).toArray : Value), fun _ => True, fun _ => True, fun vals => vals 14 = (.pointer (some ⟨b7, 0, none⟩) : Value), fun vals => vals 15 = (.pointer (some ⟨b7, 5, none⟩) : Value), fun _ => True]) [[], [], [1], [1, 2], [1, 2, 3], [], [5], [5, 6], [5, 6, 7], [], [5, 6, 7, 8, 9], [5, 6, 7, 8, 9, 10], [5, 6, 7, 8, 9, 10, 11], [1, 2, 3, 4, 5, 6, 7, 8, 9, 10, 11, 12], [0, 1, 2, 3, 4, 5, 6, 7, 8, 9, 10, 11, 12, 13], [0, 1, 2, 3, 4, 5, 6, 7, 8, 9, 10, 11, 12, 13, 14], [0, 1, 2, 3, 4, 5, 6, 7, 8, 9, 10, 11, 12, 13, 14, 15]] [12, 13, 16] [(0, 2), (0, 1), (0, 1), (0, 1), (0, 1), (0, 0), (0, 0), (0, 0), (0, 0), (0, 0), (0, 0), (0, 0), (0, 0), (1, 1), (2, 2), (2, 2), (2, 2)] (by kernel_rfl) (by kernel_rfl) (by kernel_rfl) rfl (by kernel_rfl) (by kernel_rfl) (fun _ h1 h2 h3 h4 _ => hS14.same h1 h2 h3 h4) ?_ ?_ ⟨?_, ?_, ?_, ?_, ?_, ?_, ?_, ?_, ?_, ?_, ?_, ?_, ?_, ?_, ?_, ?_, ?_, trivial⟩ ?_
    · intro k vals vals' w hv h
      have e : ∀ j ∈ ([12, 13, 16] : List Nat), vals' j = vals j := hv
      match k, h with
      | 0, h => exact h
      | 1, h => exact (by simpa only [WF, List.getElem?_cons_zero, List.getElem?_cons_succ, e 12 (by decide)] using h)
      | 2, h => exact (by simpa only [WF, List.getElem?_cons_zero, List.getElem?_cons_succ, e 12 (by decide), e 13 (by decide)] using h)
      | 3, h => exact (by simpa only [WF, List.getElem?_cons_zero, List.getElem?_cons_succ, e 12 (by decide), e 13 (by decide)] using h)
      | _ + 4, _ => trivial
    · intro i vals vals' hv h
      match i, hv, h with
      | 0, hv, h => exact (hv 0 (.inl rfl)).trans h
      | 1, hv, h => exact (hv 1 (.inl rfl)).trans h
      | 2, hv, h => exact (hv 2 (.inl rfl)).trans h
      | 3, hv, h => exact (hv 3 (.inl rfl)).trans h
      | 4, hv, h => exact (hv 4 (.inl rfl)).trans h
      | 5, hv, h => exact (hv 5 (.inl rfl)).trans h
      | 6, hv, h => exact (hv 6 (.inl rfl)).trans h
      | 7, hv, h => exact (hv 7 (.inl rfl)).trans h
      | 8, hv, h => exact (hv 8 (.inl rfl)).trans h
      | 9, hv, h => exact (hv 9 (.inl rfl)).trans h
      | 10, hv, h => exact (hv 10 (.inl rfl)).trans h
      | 11, hv, h => exact (hv 11 (.inl rfl)).trans h
      | 12, _, _ => trivial
      | 13, _, _ => trivial
      | 14, hv, h => exact (hv 14 (.inl rfl)).trans h
      | 15, hv, h => exact (hv 15 (.inl rfl)).trans h
      | 16, _, _ => trivial
      | _ + 17, _, _ => trivial
    · intro k167 vals w168 h171 h172 hW170 hA169
      refine obl rfl ?_
      exact ov_move (v := .pointer (some ⟨b7, 0, none⟩)) rfl (fun vals' hv _ => ⟨rfl, hv⟩)
    · intro k173 vals w174 h177 h178 hW176 hA175
      refine obl rfl ?_
      exact ov_move (v := .pointer (some ⟨b7, 0, none⟩)) rfl (fun vals' hv _ => ⟨rfl, hv⟩)
    · intro k179 vals w180 h183 h184 hW182 hA181
      have e185 : vals 1 = (.pointer (some ⟨b7, 0, none⟩) : Value) := hA181 1 (by decide)
      refine obl rfl ?_
      exact ov_nilCheck (b := b7) (o := 0) (show _ = (.pointer (some ⟨b7, 0, none⟩) : Value) from e185) (fun vals' hv _ => ⟨rfl, hv⟩)
    · intro k186 vals w187 h190 h191 hW189 hA188
      have e192 : vals 2 = (.pointer (some ⟨b7, 0, none⟩) : Value) := hA188 2 (by decide)
      refine obl rfl ?_
      exact fd60_1 (show _ = (.pointer (some ⟨b7, 0, none⟩) : Value) from e192) (fun vals' hv _ => ⟨rfl, hv⟩)
    · intro k193 vals w194 h197 h198 hW196 hA195
      have hkk : k193 = 0 ∨ k193 = 1 := by have h1 : 0 ≤ k193 := h197; have h2 : k193 ≤ 1 := h198; omega
      rcases hkk with rfl | rfl
      · skip
        have hS199 : Sep G W ((RowE (α := Row) own 31 vo (l.take k)) :: (Blk b7 #[.int .i64 (p.ptyp), .int .i64 (p.pfield), .int .i64 (p.pgroup), .int .i64 (p.pby), .int .i64 (p.pmake), vo] 60) :: (Blk a #[.int .i64 (p.ptyp), .int .i64 (p.pfield), .int .i64 (p.pgroup), .int .i64 (p.pby), .int .i64 (p.pmake), v2] 60) :: (RowE (α := Row) own 31 v2 l) :: Rs) w194 := hW196
        have e200 : vals 3 = (.pointer (some ⟨b7, 5, none⟩) : Value) := hA195 3 (by decide)
        refine obl rfl ?_
        exact ov_load1 (v := vo) Try.isAgg28 (show _ = (.pointer (some ⟨b7, 5, none⟩) : Value) from e200) (blk_cellL (hS199.blk (i := 1) rfl) rfl) (fun vals' hv _ => ⟨rfl, hv⟩)
      · skip
        obtain ⟨b119, he122, hS201⟩ : ∃ (b119 : Nat), (vals 12 = ((.slice (some ⟨b119, 0, none⟩) 1 1) : Value)) ∧ Sep G W ((Blk b119 ((l.getD k default).cells).toArray 31) :: (RowE (α := Row) own 31 vo (l.take k)) :: (Blk b7 #[.int .i64 (p.ptyp), .int .i64 (p.pfield), .int .i64 (p.pgroup), .int .i64 (p.pby), .int .i64 (p.pmake), vo] 60) :: (Blk a #[.int .i64 (p.ptyp), .int .i64 (p.pfield), .int .i64 (p.pgroup), .int .i64 (p.pby), .int .i64 (p.pmake), v2] 60) :: (RowE (α := Row) own 31 v2 l) :: Rs) w194 := hW196
        have e202 : vals 3 = (.pointer (some ⟨b7, 5, none⟩) : Value) := hA195 3 (by decide)
        refine obl rfl ?_
        exact ov_load1 (v := vo) Try.isAgg28 (show _ = (.pointer (some ⟨b7, 5, none⟩) : Value) from e202) (blk_cellL (hS201.blk (i := 2) rfl) rfl) (fun vals' hv _ => ⟨rfl, hv⟩)
    · intro k203 vals w204 h207 h208 hW206 hA205
      refine obl rfl ?_
      exact ov_move (v := .pointer (some ⟨a, 0, none⟩)) rfl (fun vals' hv _ => ⟨rfl, hv⟩)
    · intro k209 vals w210 h213 h214 hW212 hA211
      have e215 : vals 5 = (.pointer (some ⟨a, 0, none⟩) : Value) := hA211 5 (by decide)
      refine obl rfl ?_
      exact ov_nilCheck (b := a) (o := 0) (show _ = (.pointer (some ⟨a, 0, none⟩) : Value) from e215) (fun vals' hv _ => ⟨rfl, hv⟩)
    · intro k216 vals w217 h220 h221 hW219 hA218
      have e222 : vals 6 = (.pointer (some ⟨a, 0, none⟩) : Value) := hA218 6 (by decide)
      refine obl rfl ?_
      exact fd60_1 (show _ = (.pointer (some ⟨a, 0, none⟩) : Value) from e222) (fun vals' hv _ => ⟨rfl, hv⟩)
    · intro k223 vals w224 h227 h228 hW226 hA225
      obtain rfl : k223 = 0 := Nat.le_antisymm h228 h227
      have hS229 : Sep G W ((RowE (α := Row) own 31 vo (l.take k)) :: (Blk b7 #[.int .i64 (p.ptyp), .int .i64 (p.pfield), .int .i64 (p.pgroup), .int .i64 (p.pby), .int .i64 (p.pmake), vo] 60) :: (Blk a #[.int .i64 (p.ptyp), .int .i64 (p.pfield), .int .i64 (p.pgroup), .int .i64 (p.pby), .int .i64 (p.pmake), v2] 60) :: (RowE (α := Row) own 31 v2 l) :: Rs) w224 := hW226
      have e230 : vals 7 = (.pointer (some ⟨a, 5, none⟩) : Value) := hA225 7 (by decide)
      refine obl rfl ?_
      exact ov_load1 (v := v2) Try.isAgg28 (show _ = (.pointer (some ⟨a, 5, none⟩) : Value) from e230) (blk_cellL (hS229.blk (i := 2) rfl) rfl) (fun vals' hv _ => ⟨rfl, hv⟩)
    · intro k231 vals w232 h235 h236 hW234 hA233
      refine obl rfl ?_
      exact ov_move (v := .int .i64 ((k : Nat) : Int)) rfl (fun vals' hv _ => ⟨rfl, hv⟩)
    · intro k237 vals w238 h241 h242 hW240 hA239
      obtain rfl : k237 = 0 := Nat.le_antisymm h242 h241
      have hS243 : Sep G W ((RowE (α := Row) own 31 vo (l.take k)) :: (Blk b7 #[.int .i64 (p.ptyp), .int .i64 (p.pfield), .int .i64 (p.pgroup), .int .i64 (p.pby), .int .i64 (p.pmake), vo] 60) :: (Blk a #[.int .i64 (p.ptyp), .int .i64 (p.pfield), .int .i64 (p.pgroup), .int .i64 (p.pby), .int .i64 (p.pmake), v2] 60) :: (RowE (α := Row) own 31 v2 l) :: Rs) w238 := hW240
      have e244 : vals 8 = (v2 : Value) := hA239 8 (by decide)
      have e245 : vals 9 = (.int .i64 ((k : Nat) : Int) : Value) := hA239 9 (by decide)
      refine obl rfl ?_
      have hi246 : k < l.length := (by first | omega | (simp only [List.length_append, List.length_cons, List.length_nil, List.length_take, List.length_drop, List.length_set, List.length_replicate]; omega))
      exact ov_indexAddrN (k := 3) (i := k) Try.underlying28 Try.sizeOf31 (show _ = (v2 : Value) from e244) hr4.1 (show _ = (.int .i64 ((k : Nat) : Int) : Value) from e245) hi246 (fun vals' hv _ => ⟨rfl, hv⟩)
    · intro k247 vals w248 h251 h252 hW250 hA249
      obtain rfl : k247 = 0 := Nat.le_antisymm h252 h251
      have hS253 : Sep G W ((RowE (α := Row) own 31 vo (l.take k)) :: (Blk b7 #[.int .i64 (p.ptyp), .int .i64 (p.pfield), .int .i64 (p.pgroup), .int .i64 (p.pby), .int .i64 (p.pmake), vo] 60) :: (Blk a #[.int .i64 (p.ptyp), .int .i64 (p.pfield), .int .i64 (p.pgroup), .int .i64 (p.pby), .int .i64 (p.pmake), v2] 60) :: (RowE (α := Row) own 31 v2 l) :: Rs) w248 := hW250
      have e254 : vals 10 = (.pointer (some ⟨sb v2, so v2 + k * 3, none⟩) : Value) := hA249 10 (by decide)
      refine obl rfl ?_
      have hi256 : k < l.length := (by first | omega | (simp only [List.length_append, List.length_cons, List.length_nil, List.length_take, List.length_drop, List.length_set, List.length_replicate]; omega))
      obtain ⟨_, _, hce255, rfl, hoke255⟩ := hS253.rowAt (i := 3) (j := k) rfl hi256
      rw [← getD_at default hi256] at hce255 hoke255
      exact ov_loadk (k := 3) Try.isAgg31 Try.sizeOf31 rfl (show _ = (.pointer (some ⟨sb v2, so v2 + k * 3, none⟩) : Value) from e254) hce255 (fun vals' hv _ => ⟨rfl, hv⟩)
    · intro k110 vals w111 h114 h115 hW113 hA112
      obtain rfl : k110 = 0 := Nat.le_antisymm h115 h114
      have hS116 : Sep G W ((RowE (α := Row) own 31 vo (l.take k)) :: (Blk b7 #[.int .i64 (p.ptyp), .int .i64 (p.pfield), .int .i64 (p.pgroup), .int .i64 (p.pby), .int .i64 (p.pmake), vo] 60) :: (Blk a #[.int .i64 (p.ptyp), .int .i64 (p.pfield), .int .i64 (p.pgroup), .int .i64 (p.pby), .int .i64 (p.pmake), v2] 60) :: (RowE (α := Row) own 31 v2 l) :: Rs) w111 := hW113
      have e117 : vals 11 = (.agg ((l.getD k default).cells).toArray : Value) := hA112 11 (by decide)
      refine obl rfl ?_
      refine (ov_buildSlice (k := 3) (parts' := [(0, .agg ((l.getD k default).cells).toArray)]) (c := ((l.getD k default).cells).toArray) Try.underlying28 Try.sizeOf31 Try.zeroValue31 (by decide) (mapP ⟨rfl, (show _ = (.agg ((l.getD k default).cells).toArray : Value) from e117), trivial⟩) (by kernel_rfl) ?_)
      intro w120 b119 hn118
      have hS121 : Sep G W ((Blk b119 ((l.getD k default).cells).toArray 31) :: (RowE (α := Row) own 31 vo (l.take k)) :: (Blk b7 #[.int .i64 (p.ptyp), .int .i64 (p.pfield), .int .i64 (p.pgroup), .int .i64 (p.pby), .int .i64 (p.pmake), vo] 60) :: (Blk a #[.int .i64 (p.ptyp), .int .i64 (p.pfield), .int .i64 (p.pgroup), .int .i64 (p.pby), .int .i64 (p.pmake), v2] 60) :: (RowE (α := Row) own 31 v2 l) :: Rs) w120 := hS116.new hn118
      intro vals' hv hv'
      refine ⟨?_, trivial⟩
      show ∃ (b119 : Nat), (vals' 12 = ((.slice (some ⟨b119, 0, none⟩) 1 1) : Value)) ∧ Sep G W ((Blk b119 ((l.getD k default).cells).toArray 31) :: (RowE (α := Row) own 31 vo (l.take k)) :: (Blk b7 #[.int .i64 (p.ptyp), .int .i64 (p.pfield), .int .i64 (p.pgroup), .int .i64 (p.pby), .int .i64 (p.pmake), vo] 60) :: (Blk a #[.int .i64 (p.ptyp), .int .i64 (p.pfield), .int .i64 (p.pgroup), .int .i64 (p.pby), .int .i64 (p.pmake), v2] 60) :: (RowE (α := Row) own 31 v2 l) :: Rs) w120
      exact ⟨b119, hv, hS121⟩
    · intro k123 vals w124 h127 h128 hW126 hA125
      obtain rfl : k123 = 1 := Nat.le_antisymm h128 h127
      obtain ⟨b119, he122, hS129⟩ : ∃ (b119 : Nat), (vals 12 = ((.slice (some ⟨b119, 0, none⟩) 1 1) : Value)) ∧ Sep G W ((Blk b119 ((l.getD k default).cells).toArray 31) :: (RowE (α := Row) own 31 vo (l.take k)) :: (Blk b7 #[.int .i64 (p.ptyp), .int .i64 (p.pfield), .int .i64 (p.pgroup), .int .i64 (p.pby), .int .i64 (p.pmake), vo] 60) :: (Blk a #[.int .i64 (p.ptyp), .int .i64 (p.pfield), .int .i64 (p.pgroup), .int .i64 (p.pby), .int .i64 (p.pmake), v2] 60) :: (RowE (α := Row) own 31 v2 l) :: Rs) w124 := hW126
      have e130 : vals 4 = (vo : Value) := hA125 4 (by decide)
      refine obl rfl ?_
      have hbk134 := hS129.blk (i := 0) rfl
      have hS135 : Sep G W ((RowE (α := Row) own 31 vo (l.take k)) :: (Blk b7 #[.int .i64 (p.ptyp), .int .i64 (p.pfield), .int .i64 (p.pgroup), .int .i64 (p.pby), .int .i64 (p.pmake), vo] 60) :: (Blk a #[.int .i64 (p.ptyp), .int .i64 (p.pfield), .int .i64 (p.pgroup), .int .i64 (p.pby), .int .i64 (p.pmake), v2] 60) :: (RowE (α := Row) own 31 v2 l) :: Rs) w124 := hS129.sel 5 [1, 2, 3, 4] (Nat.le_add_left _ _) rfl rfl
      have hS136 : Sep G W ((RowE (α := Row) own 31 vo (l.take k)) :: Emp :: (Blk b7 #[.int .i64 (p.ptyp), .int .i64 (p.pfield), .int .i64 (p.pgroup), .int .i64 (p.pby), .int .i64 (p.pmake), vo] 60) :: (Blk a #[.int .i64 (p.ptyp), .int .i64 (p.pfield), .int .i64 (p.pgroup), .int .i64 (p.pby), .int .i64 (p.pmake), v2] 60) :: (RowE (α := Row) own 31 v2 l) :: Rs) w124 := hS135.emp1
      have hi138 : k < l.length := (by first | omega | (simp only [List.length_append, List.length_cons, List.length_nil, List.length_take, List.length_drop, List.length_set, List.length_replicate]; omega))
      obtain ⟨_, _, hce137, rfl, hoke137⟩ := hS136.rowAt (i := 4) (j := k) rfl hi138
      rw [← getD_at default hi138] at hce137 hoke137
      refine (ov_append1S (src := own) (bytes := 24) (x1 := (l.getD k default)) hS136 el28 (show _ = (vo : Value) from e130) (show _ = ((.slice (some ⟨b119, 0, none⟩) 1 1) : Value) from he122) hbk134 (fun _ _ _ => (show _ from ⟨rfl, hoke137⟩)) (by first | omega | (simp only [List.length_append, List.length_cons, List.length_nil, List.length_take, List.length_drop]; omega)) rfl ?_)
      intro v132 w131 hS133
      have hr139 := hS133.row (i := 0) rfl
      have hr139s : (l.take k ++ [(l.getD k default)]).length * 24 ≤ 140737488355328 := hr139.2
      intro vals' hv hv'
      refine ⟨?_, trivial⟩
      show ∃ (b119 : Nat) (v132 : Value), (vals' 12 = ((.slice (some ⟨b119, 0, none⟩) 1 1) : Value)) ∧ (vals' 13 = (v132 : Value)) ∧ Sep G W ((RowE (α := Row) own 31 v132 (l.take k ++ [(l.getD k default)])) :: (Blk b7 #[.int .i64 (p.ptyp), .int .i64 (p.pfield), .int .i64 (p.pgroup), .int .i64 (p.pby), .int .i64 (p.pmake), vo] 60) :: (Blk a #[.int .i64 (p.ptyp), .int .i64 (p.pfield), .int .i64 (p.pgroup), .int .i64 (p.pby), .int .i64 (p.pmake), v2] 60) :: (RowE (α := Row) own 31 v2 l) :: Rs) w131
      exact ⟨b119, v132, (by rw [hv' 12 (by decide)]; exact he122), hv, hS133⟩
    · intro k257 vals w258 h261 h262 hW260 hA259
      have e263 : vals 0 = (.pointer (some ⟨b7, 0, none⟩) : Value) := hA259 0 (by decide)
      refine obl rfl ?_
      exact ov_nilCheck (b := b7) (o := 0) (show _ = (.pointer (some ⟨b7, 0, none⟩) : Value) from e263) (fun vals' hv _ => ⟨rfl, hv⟩)
    · intro k264 vals w265 h268 h269 hW267 hA266
      have e270 : vals 14 = (.pointer (some ⟨b7, 0, none⟩) : Value) := hA266 14 (by decide)
      refine obl rfl ?_
      exact fd60_1 (show _ = (.pointer (some ⟨b7, 0, none⟩) : Value) from e270) (fun vals' hv _ => ⟨rfl, hv⟩)
    · intro k155 vals w156 h159 h160 hW158 hA157
      obtain rfl : k155 = 2 := Nat.le_antisymm h160 h159
      obtain ⟨b119, v132, he122, he140, hS161⟩ : ∃ (b119 : Nat) (v132 : Value), (vals 12 = ((.slice (some ⟨b119, 0, none⟩) 1 1) : Value)) ∧ (vals 13 = (v132 : Value)) ∧ Sep G W ((RowE (α := Row) own 31 v132 (l.take k ++ [(l.getD k default)])) :: (Blk b7 #[.int .i64 (p.ptyp), .int .i64 (p.pfield), .int .i64 (p.pgroup), .int .i64 (p.pby), .int .i64 (p.pmake), vo] 60) :: (Blk a #[.int .i64 (p.ptyp), .int .i64 (p.pfield), .int .i64 (p.pgroup), .int .i64 (p.pby), .int .i64 (p.pmake), v2] 60) :: (RowE (α := Row) own 31 v2 l) :: Rs) w156 := hW158
      have e162 : vals 15 = (.pointer (some ⟨b7, 5, none⟩) : Value) := hA157 15 (by decide)
      refine obl rfl ?_
      have hr165 := hS161.row (i := 0) rfl
      have hr165s : (l.take k ++ [(l.getD k default)]).length * 24 ≤ 140737488355328 := hr165.2
      refine (ov_store1 (v := v132) (c := [.int .i64 (p.ptyp), .int .i64 (p.pfield), .int .i64 (p.pgroup), .int .i64 (p.pby), .int .i64 (p.pmake), vo]) (c' := [.int .i64 (p.ptyp), .int .i64 (p.pfield), .int .i64 (p.pgroup), .int .i64 (p.pby), .int .i64 (p.pmake), v132]) Try.sizeOf28 (show _ = (.pointer (some ⟨b7, 5, none⟩) : Value) from e162) (show _ = (v132 : Value) from he140) (hS161.blk (i := 1) rfl) hr165.1.one rfl rfl ?_)
      intro w163 hp164
      have hS166 : Sep G W ((RowE (α := Row) own 31 v132 (l.take k ++ [(l.getD k default)])) :: (Blk b7 #[.int .i64 (p.ptyp), .int .i64 (p.pfield), .int .i64 (p.pgroup), .int .i64 (p.pby), .int .i64 (p.pmake), v132] 60) :: (Blk a #[.int .i64 (p.ptyp), .int .i64 (p.pfield), .int .i64 (p.pgroup), .int .i64 (p.pby), .int .i64 (p.pmake), v2] 60) :: (RowE (α := Row) own 31 v2 l) :: Rs) w163 := hS161.put (i := 1) rfl hp164
      intro vals' hv hv'
      refine ⟨?_, trivial⟩
      show ∃ (b119 : Nat) (v132 : Value), (vals' 12 = ((.slice (some ⟨b119, 0, none⟩) 1 1) : Value)) ∧ (vals' 13 = (v132 : Value)) ∧ Sep G W ((RowE (α := Row) own 31 v132 (l.take k ++ [(l.getD k default)])) :: (Blk b7 #[.int .i64 (p.ptyp), .int .i64 (p.pfield), .int .i64 (p.pgroup), .int .i64 (p.pby), .int .i64 (p.pmake), v132] 60) :: (Blk a #[.int .i64 (p.ptyp), .int .i64 (p.pfield), .int .i64 (p.pgroup), .int .i64 (p.pby), .int .i64 (p.pmake), v2] 60) :: (RowE (α := Row) own 31 v2 l) :: Rs) w163
      exact ⟨b119, v132, (by rw [hv' 12 (by decide)]; exact he122), (by rw [hv' 13 (by decide)]; exact he140), hS166⟩
    intro vals w271 hW272 hA273
    obtain ⟨b119, v132, he122, he140, hS274⟩ : ∃ (b119 : Nat) (v132 : Value), (vals 12 = ((.slice (some ⟨b119, 0, none⟩) 1 1) : Value)) ∧ (vals 13 = (v132 : Value)) ∧ Sep G W ((RowE (α := Row) own 31 v132 (l.take k ++ [(l.getD k default)])) :: (Blk b7 #[.int .i64 (p.ptyp), .int .i64 (p.pfield), .int .i64 (p.pgroup), .int .i64 (p.pby), .int .i64 (p.pmake), v132] 60) :: (Blk a #[.int .i64 (p.ptyp), .int .i64 (p.pfield), .int .i64 (p.pgroup), .int .i64 (p.pby), .int .i64 (p.pmake), v2] 60) :: (RowE (α := Row) own 31 v2 l) :: Rs) w271 := hW272
    refine st_env (kv := [(0, .pointer (some ⟨a, 0, none⟩)), (3, .pointer (some ⟨b7, 0, none⟩)), (4, .int .i64 ((k : Nat) : Int)), (11, .int .i64 ((k : Nat) : Int)), (12, .pointer (some ⟨a, 0, none⟩)), (13, .pointer (some ⟨a, 0, none⟩)), (14, .pointer (some ⟨a, 5, none⟩)), (15, v2), (16, .int .i64 ((l.length : Nat) : Int)), (17, .bool true)]) ⟨rfl, rfl, rfl, rfl, rfl, rfl, rfl, rfl, rfl, rfl, trivial⟩ (fun ρw271 => ?_)
    refine st_nil ?_
    refine WP_region0 (by kernel_rfl) (fun _ => ?_)
    refine st (ov_move (v := .int .i64 ((k : Nat) : Int)) rfl ?_)
    have hr275 : InR ((k + 1 : Nat) : Int) := by first | omega | (simp only [List.length_append, List.length_cons, List.length_nil, List.length_take, List.length_drop, List.length_set, List.length_replicate]; omega)
    refine st (ov_add (r := ((k + 1 : Nat) : Int)) (k := .i64) (a := ((k : Nat) : Int)) (b := 1) rfl rfl (by rw [show (((k : Nat) : Int) + 1 : Int) = ((k + 1 : Nat) : Int) by first | omega | (simp only [List.length_append, List.length_cons, List.length_nil, List.length_take, List.length_drop, List.length_set, List.length_replicate]; omega)]; exact wrap_in hr275) ?_)
    refine st (ov_assign (v := .int .i64 ((k + 1 : Nat) : Int)) rfl ?_)
    refine st_nil ?_
    have hL276 : l.take (k + 1) = l.take k ++ [(l.getD k default)] := (List.take_getD (by omega))
    rw [← hL276] at hS274
    exact ⟨_, by omega, k + 1, v132, _, rfl, setAll_self ⟨rfl, rfl, rfl, trivial⟩, by omega, hS274⟩

end Go.Proofs.Ytbbpmhfcgoljdaa
