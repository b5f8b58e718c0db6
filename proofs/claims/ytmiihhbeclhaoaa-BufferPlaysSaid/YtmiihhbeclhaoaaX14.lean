/- Texts of this claim, part 14. -/
import Derived.Test.YtmiihhbeclhaoaaX13
set_option linter.unusedSimpArgs false
set_option linter.unusedVariables false
set_option linter.unusedSectionVars false
section
/- Steps of the proofs of this seat: part D10. -/
set_option linter.unusedSimpArgs false
set_option linter.unusedVariables false
set_option maxRecDepth 8000
set_option maxHeartbeats 4000000
namespace Go.Proofs.Ytmiihhbeclhaoaa
open Go.Proofs Go.RowKit

/-- Events that wait: room; the events. -/
def RBufO (b : Nat) (most : Int) (B : List Ev) : HP := Ex1 fun vl => Star [Blk b #[.int .i64 most, vl] 76, EvW vl 36 3 B]
section
variable {G : Nat → Prop} {W w : World} {As : List HP} {b : Nat} {most : Int} {B : List Ev}
theorem RBufO.open (h : Sep G W (RBufO b most B :: As) w) : ∃ vl, Sep G W (Blk b #[.int .i64 most, vl] 76 :: EvW vl 36 3 B :: As) w := by
  obtain ⟨vl, h⟩ := h.openEx
  exact ⟨vl, h.openStar⟩
theorem RBufO.close {vl : Value} (h : Sep G W (Blk b #[.int .i64 most, vl] 76 :: EvW vl 36 3 B :: As) w) : Sep G W (RBufO b most B :: As) w := Sep.closeEx (A := fun vl => Star [Blk b #[.int .i64 most, vl] 76, EvW vl 36 3 B]) vl (Sep.closeStar (Bs := [Blk b #[.int .i64 most, vl] 76, EvW vl 36 3 B]) h)
theorem RBufO.sh (h : (RBufO b most B).p W G) : ∃ vl, (Blk b #[.int .i64 most, vl] 76).p W G ∧ RdS W G vl B := by
  obtain ⟨vl, h⟩ := h
  exact ⟨vl, Star.at_ h (i := 0) rfl, EvW.rd (T := 36) (Star.at_ h (i := 1) rfl)⟩
end
theorem D_rbNew {G : Nat → Prop} {W w : World} {Rs : List HP} {x : Int} (hx : InR x) (hS0 : Sep G W Rs w) : Ret Try.prog 20 [.int .i64 (x)] w (fun r w' => ∃ (b : Nat), r = (.pointer (some ⟨b, 0, none⟩) : Value) ∧ Sep G W ((RBufO b (max 0 (min x 256)) ([] : List Ev)) :: Rs) w') := by
 refine Calls_of_WP (args := [.int .i64 (x)]) Try.func20 rfl rfl ?_
 refine WP_seq ?_
 refine WP_region0 (by kernel_rfl) (fun _ => ?_)
 refine st (ov_assign (v := .pointer none) rfl ?_)
 refine st_nil ?_
 refine WP_seq ?_
 refine WP_region0 (by kernel_rfl) (fun _ => ?_)
 refine st (ov_move (v := .int .i64 (x)) rfl ?_)
 refine st (ov_min (k := .i64) (a := x) (b := 256) rfl rfl ?_)
 refine st (ov_max (k := .i64) (a := 0) (b := min x 256) rfl rfl ?_)
 refine st (ov_build (parts' := [(0, .int .i64 (max 0 (min x 256)))]) (v := .agg #[.int .i64 (max 0 (min x 256)), (.slice none 0 0)]) rfl (by simp [Instr.build, Instr.fill, go_sem]) ?_)
 refine st (ov_box (v := .agg #[.int .i64 (max 0 (min x 256)), (.slice none 0 0)]) rfl ?_)
 intro w3 b2 hn1
 have hS4 : Sep G W ((Blk b2 #[.int .i64 (max 0 (min x 256)), (.slice none 0 0)] 76) :: Rs) w3 := hS0.new hn1
 refine st (ov_assign (v := .pointer (some ⟨b2, 0, none⟩)) rfl ?_)
 refine st_nil ?_
 refine WP_ret ?_
 refine fin1 Try.results20 (show _ = (.pointer (some ⟨b2, 0, none⟩) : Value) from rfl) ?_
 have hS5 : Sep G W ((EvW (.slice none 0 0) 36 3 ([] : List Ev)) :: (Blk b2 #[.int .i64 (max 0 (min x 256)), (.slice none 0 0)] 76) :: Rs) w3 := hS4.evwNil 36 3
 have hS6 : Sep G W ((Blk b2 #[.int .i64 (max 0 (min x 256)), (.slice none 0 0)] 76) :: (EvW (.slice none 0 0) 36 3 ([] : List Ev)) :: Rs) w3 := hS5.sel 2 [1, 0] (Nat.le_add_left _ _) rfl rfl
 have hS7 : Sep G W ((RBufO b2 (max 0 (min x 256)) ([] : List Ev)) :: Rs) w3 := RBufO.close (most := (max 0 (min x 256))) (B := ([] : List Ev)) hS6
 refine ⟨b2, rfl, hS7⟩

theorem fd76_1 {d : Option Tmp} {ty : TypeId} {pos : String} {af : Array Edge} {g : Option (Nat × Bool)} {σ : Env} {w : World} {K : Value → World → Prop} {x : Operand} {b o : Nat} (hx : ev σ x = .pointer (some ⟨b, o, none⟩)) (h : K (.pointer (some ⟨b, o + 1, none⟩)) w) : opV Try.prog ⟨d, .fieldAddr 76 x 1, ty, pos, af, g⟩ σ w K := ov_fieldAddr Try.underlying76 rfl rfl (fun w => ⟨0, Try.sizeOf22 w⟩) hx h
theorem D_rbLen {G : Nat → Prop} {W w : World} {Rs : List HP} {b : Nat} {most : Int} {B : List Ev} (hb : (RBufO b most B).p W G) (hS0 : Sep G W Rs w) : Ret Try.prog 32 [.pointer (some ⟨b, 0, none⟩)] w (fun r w' => r = (.int .i64 ((B.length : Nat) : Int) : Value) ∧ Sep G W Rs w') := by
 refine Calls_of_WP (args := [.pointer (some ⟨b, 0, none⟩)]) Try.func32 rfl rfl ?_
 obtain ⟨vl1, hb2, hl3⟩ := RBufO.sh hb
 have hsm4 : B.length * 96 ≤ 140737488355328 := hl3.small
 refine WP_seq ?_
 refine WP_region0 (by kernel_rfl) (fun _ => ?_)
 refine st (ov_assign (v := .int .i64 (0)) rfl ?_)
 refine st_nil ?_
 refine WP_seq ?_
 refine WP_region0 (by kernel_rfl) (fun _ => ?_)
 refine st (ov_move (v := .pointer (some ⟨b, 0, none⟩)) rfl ?_)
 refine st (ov_nilCheck (b := b) (o := 0) rfl ?_)
 refine st (fd76_1 rfl ?_)
 refine st (ov_load1 (v := vl1) Try.isAgg22 rfl (blk_cellL (hS0.gblk hb2) rfl) ?_)
 refine st (ov_len (n := B.length) Try.underlying22 rfl hl3.sl ?_)
 refine st (ov_assign (v := .int .i64 ((B.length : Nat) : Int)) rfl ?_)
 refine st_nil ?_
 refine WP_ret ?_
 refine fin1 Try.results32 (show _ = (.int .i64 ((B.length : Nat) : Int) : Value) from rfl) ?_
 refine ⟨rfl, hS0⟩

theorem D_rbClear {G : Nat → Prop} {W w : World} {Rs : List HP} {b : Nat} {most : Int} {B : List Ev} (hS0 : Sep G W ((RBufO b most B) :: Rs) w) : Ret Try.prog 27 [.pointer (some ⟨b, 0, none⟩)] w (fun r w' => r = (.tuple #[] : Value) ∧ Sep G W ((RBufO b most ([] : List Ev)) :: Rs) w') := by
 refine Calls_of_WP (args := [.pointer (some ⟨b, 0, none⟩)]) Try.func27 rfl rfl ?_
 obtain ⟨vl1, hS2⟩ := RBufO.open hS0
 have hS2t : Sep G W ((Blk b #[.int .i64 (most), vl1] 76) :: (EvW vl1 36 3 B) :: Rs) w := hS2
 have hes3 : B.length * 96 ≤ 140737488355328 := (hS2t.evwSl (i := 1) rfl).2
 refine WP_region0 (by kernel_rfl) (fun _ => ?_)
 refine st (ov_move (v := .pointer (some ⟨b, 0, none⟩)) rfl ?_)
 refine st (ov_nilCheck (b := b) (o := 0) rfl ?_)
 refine st (fd76_1 rfl ?_)
 refine stn (ov_store1 (v := (.slice none 0 0)) (c := [.int .i64 (most), vl1]) (c' := [.int .i64 (most), (.slice none 0 0)]) Try.sizeOf22 rfl rfl (hS2t.blk (i := 0) rfl) rfl rfl rfl ?_)
 intro w4 hp5
 have hS6 : Sep G W ((Blk b #[.int .i64 (most), (.slice none 0 0)] 76) :: (EvW vl1 36 3 B) :: Rs) w4 := hS2t.put (i := 0) rfl hp5
 refine st_nil ?_
 refine fin0 Try.results27 ?_
 have hS7 : Sep G W ((EvW (.slice none 0 0) 36 3 ([] : List Ev)) :: (Blk b #[.int .i64 (most), (.slice none 0 0)] 76) :: (EvW vl1 36 3 B) :: Rs) w4 := hS6.evwNil 36 3
 have hS8 : Sep G W ((Blk b #[.int .i64 (most), (.slice none 0 0)] 76) :: (EvW (.slice none 0 0) 36 3 ([] : List Ev)) :: (EvW vl1 36 3 B) :: Rs) w4 := hS7.sel 3 [1, 0, 2] (Nat.le_add_left _ _) rfl rfl
 have hS9 : Sep G W ((RBufO b most ([] : List Ev)) :: (EvW vl1 36 3 B) :: Rs) w4 := RBufO.close (most := most) (B := ([] : List Ev)) hS8
 have hS10 : Sep G W ((RBufO b most ([] : List Ev)) :: Rs) w4 := hS9.sel 2 [0] (Nat.le_add_left _ _) rfl rfl
 refine ⟨rfl, hS10⟩

def mkP (e : Ev) (d : Value) : EvP := if h : d.oneCell' = true then (e, ⟨d, h⟩) else default
theorem mkP_eq {e : Ev} {d : Value} (h : d.oneCell' = true) : mkP e d = (e, ⟨d, h⟩) := dif_pos h
theorem mkP_cells {e : Ev} {d : Value} (h : d.oneCell' = true) : e.cells d = (mkP e d).cells := by rw [mkP_eq h]; rfl
theorem Sep.evwSnoc {G : Nat → Prop} {W w : World} {As : List HP} {T Ti : TypeId} {v d : Value} {ps : List EvP} {B : List Ev} {e : Ev} (h : Sep G W (RowE (α := EvP) own T v (ps ++ [mkP e d]) :: RowE (α := Int) own Ti d e.deps :: StarD Ti ps :: As) w) (hp : ps.map (fun s : EvP => s.1) = B) (hok : ∀ s ∈ ps, s.1.Ok) (oe : e.Ok) : Sep G W (EvW v T Ti (B ++ [e]) :: As) w := by
  have h1 := (h.row (i := 1) rfl).1.one
  rw [mkP_eq h1] at h
  have h2 := Sep.starIns (p := ((e, ⟨d, h1⟩) : EvP)) (i := ps.length) (h.sel 3 [2, 1, 0] (Nat.le_add_left _ _) rfl rfl)
  rw [List.take_length, List.drop_length, List.append_nil] at h2
  refine Sep.evwOf (h2.sel 2 [1, 0] (Nat.le_add_left _ _) rfl rfl) (by rw [List.map_append, hp]; rfl) (fun s hs => ?_)
  rcases List.mem_append.1 hs with hs | hs
  · exact hok s hs
  · rw [List.mem_singleton.1 hs]; exact oe
theorem has_at {B : List Ev} {e : Ev} {k : Nat} (hk : k < B.length) (h : sameId (B.getD k default) e = true) : hasId B e = true := by
  unfold hasId
  rw [List.any_eq_true]
  exact ⟨B.getD k default, by rw [getD_at _ hk]; exact List.getElem_mem hk, h⟩
theorem has_none {B : List Ev} {e : Ev} (h : ∀ i, i < B.length → sameId (B.getD i default) e = false) : hasId B e = false := by
  unfold hasId
  rw [List.any_eq_false]
  intro x hx
  obtain ⟨i, hi, rfl⟩ := List.getElem_of_mem hx
  have := h i hi
  rw [getD_at _ hi] at this
  simpa using this
def rAddB (most : Int) (B : List Ev) (e : Ev) : List Ev := if bAddB most B e = true then B ++ [e] else B
theorem rAdd_no {most : Int} {B : List Ev} {e : Ev} (h : (decide (most ≤ ((B.length : Nat) : Int)) || hasId B e) = true) : bAddB most B e = false ∧ B = rAddB most B e := by
  obtain ⟨h1, _⟩ := bAdd_no h
  exact ⟨h1, by unfold rAddB; rw [if_neg (by rw [h1]; decide)]⟩
theorem rAdd_yes {most : Int} {B : List Ev} {e : Ev} (h : (decide (most ≤ ((B.length : Nat) : Int)) || hasId B e) = false) : bAddB most B e = true ∧ B ++ [e] = rAddB most B e := by
  obtain ⟨h1, _⟩ := bAdd_yes h
  exact ⟨h1, by unfold rAddB; rw [if_pos h1]⟩
theorem fd76_0 {d : Option Tmp} {ty : TypeId} {pos : String} {af : Array Edge} {g : Option (Nat × Bool)} {σ : Env} {w : World} {K : Value → World → Prop} {x : Operand} {b o : Nat} (hx : ev σ x = .pointer (some ⟨b, o, none⟩)) (h : K (.pointer (some ⟨b, o + 0, none⟩)) w) : opV Try.prog ⟨d, .fieldAddr 76 x 0, ty, pos, af, g⟩ σ w K := ov_fieldAddr Try.underlying76 rfl rfl (fun w => ⟨0, Try.sizeOf3 w⟩) hx h
theorem D_rbAdd {G : Nat → Prop} {W w : World} {Rs : List HP} {b : Nat} {most : Int} {B : List Ev} {e : Ev} {de0 : Value} (hde0 : RdS W G de0 e.deps) (oe : e.Ok) (hS0 : Sep G W ((RBufO b most B) :: Rs) w) (hmost : InR most) (hBl : B.length ≤ 1000000) : Ret Try.prog 24 [.pointer (some ⟨b, 0, none⟩), .agg (e.cells de0).toArray] w (fun r w' => ∃ (B1 : List Ev), r = (.bool ((bAddB most B e)) : Value) ∧ (B1 = rAddB most B e) ∧ Sep G W ((RBufO b most B1) :: Rs) w') := by
 have hde0s : e.deps.length * 8 ≤ 140737488355328 := hde0.small
 refine Calls_of_WP (args := [.pointer (some ⟨b, 0, none⟩), .agg (e.cells de0).toArray]) Try.func24 rfl rfl ?_
 obtain ⟨vl1, hS2⟩ := RBufO.open hS0
 have hS2t : Sep G W ((Blk b #[.int .i64 (most), vl1] 76) :: (EvW vl1 36 3 B) :: Rs) w := hS2
 have hes3 : B.length * 96 ≤ 140737488355328 := (hS2t.evwSl (i := 1) rfl).2
 refine WP_seq ?_
 refine WP_region0 (by kernel_rfl) (fun _ => ?_)
 refine st (ov_box (v := .agg (e.cells de0).toArray) rfl ?_)
 intro w6 b5 hn4
 have hS7 : Sep G W ((Blk b5 (e.cells de0).toArray 36) :: (Blk b #[.int .i64 (most), vl1] 76) :: (EvW vl1 36 3 B) :: Rs) w6 := hS2t.new hn4
 refine st (ov_assign (v := .bool false) rfl ?_)
 refine st_nil ?_
 refine WP_seq ?_
 refine WP_seq ?_
 have hS8 : Sep G W ((EvW vl1 36 3 B) :: (Blk b5 (e.cells de0).toArray 36) :: (Blk b #[.int .i64 (most), vl1] 76) :: Rs) w6 := hS7.sel 3 [2, 0, 1] (Nat.le_add_left _ _) rfl rfl
 obtain ⟨G9, hA11, hB12, hS13, hk14⟩ := hS8.lend
 have hrd15 := EvW.rd hA11
 have hrd15s : B.length * 96 ≤ 140737488355328 := hrd15.small
 refine WP_region0 (by kernel_rfl) (fun _ => ?_)
 refine st (ov_assign (v := .int .i64 (0)) rfl ?_)
 refine st_nil ?_
 refine WP_block ?_
 refine WP_loop (fun mq σ wq => ∃ (k : Nat) (ρ : Env), mq = B.length - k ∧ σ = setAll ρ [(0, .pointer (some ⟨b, 0, none⟩)), (3, .pointer (some ⟨b5, 0, none⟩)), (5, .int .i64 ((k : Nat) : Int))] ∧ (k ≤ B.length) ∧ (∀ i, i < k → sameId (B.getD i default) e = false) ∧ Sep G9 w6 ((Blk b5 (e.cells de0).toArray 36) :: (Blk b #[.int .i64 (most), vl1] 76) :: Rs) wq) ⟨0, _, rfl, setAll_self ⟨rfl, rfl, rfl, trivial⟩, Nat.zero_le _, (fun i h => absurd h (Nat.not_lt_zero i)), hS13⟩ ?_
 rintro m17 σ18 w16 ⟨k, ρl1, rfl, rfl, hkk, hm, hS19⟩
 refine WP_seq ?_
 refine WP_seq ?_
 refine WP_region0 (by kernel_rfl) (fun _ => ?_)
 refine st (ov_move (v := .int .i64 ((k : Nat) : Int)) rfl ?_)
 refine st (ov_move (v := .pointer (some ⟨b, 0, none⟩)) rfl ?_)
 refine st (ov_nilCheck (b := b) (o := 0) rfl ?_)
 refine st (fd76_1 rfl ?_)
 refine st (ov_load1 (v := vl1) Try.isAgg22 rfl (blk_cellL (hS19.blk (i := 1) rfl) rfl) ?_)
 refine st (ov_len (n := B.length) Try.underlying22 rfl hrd15.sl ?_)
 refine st (ov_lss (k := .i64) (a := ((k : Nat) : Int)) (b := ((B.length : Nat) : Int)) rfl rfl ?_)
 refine st_nil ?_
 cases hc20 : decide (((k : Nat) : Int) < ((B.length : Nat) : Int))
 ·skip
  have hc20r := hc20
  have hc20 := of_decide_eq_false hc20
  refine WP_cond_f rfl ?_
  refine WP_exit ?_
  refine blk_exit ?_
  refine WP_seq ?_
  refine WP_seq ?_
  have hS21 : Sep G W ((EvW vl1 36 3 B) :: (Blk b5 (e.cells de0).toArray 36) :: (Blk b #[.int .i64 (most), vl1] 76) :: Rs) w16 := hk14 _ _ hS19
  have hhn9 : hasId B e = false := has_none (fun i hi => hm i (by omega))
  refine WP_draw4 (WF [fun vals wq => Sep G W ((EvW vl1 36 3 B) :: (Blk b5 (e.cells de0).toArray 36) :: (Blk b #[.int .i64 (most), vl1] 76) :: Rs) wq]) (AF [Vl 0 (.pointer (some ⟨b, 0, none⟩)), Vl 1 (.pointer (some ⟨b, 0, none⟩)), Vl 2 (.pointer (some ⟨b, 1, none⟩)), Vl 3 (vl1), Vl 4 (.int .i64 ((B.length : Nat) : Int)), Vl 5 (.pointer (some ⟨b, 0, none⟩)), Vl 6 (.pointer (some ⟨b, 0, none⟩)), Vl 7 (.pointer (some ⟨b, 0, none⟩)), Vl 8 (.int .i64 (most)), Vl 9 (.bool (decide (most ≤ ((B.length : Nat) : Int))))]) [[], [0], [0, 1], [0, 1, 2], [0, 1, 2, 3], [], [5], [5, 6], [5, 6, 7], [0, 1, 2, 3, 4, 5, 6, 7, 8]] [] [(0, 0), (0, 0), (0, 0), (0, 0), (0, 0), (0, 0), (0, 0), (0, 0), (0, 0), (0, 0)] (by kernel_rfl) (by kernel_rfl) (by kernel_rfl) rfl (by kernel_rfl) (by kernel_rfl) (fun _ h1 h2 h3 h4 _ => hS21.same h1 h2 h3 h4) ?_ (AF_loc ⟨dA, dA, dA, dA, dA, dA, dA, dA, dA, dA, trivial⟩) ⟨?_, ?_, ?_, ?_, ?_, ?_, ?_, ?_, ?_, ?_, trivial⟩ ?_
  ·intro k vals vals' w hv h
   match k, h with
   | 0, h => exact h
   | _ + 1, _ => trivial
  ·intro k95 vals w96 h99 h100 hW98 hA97
   refine obl rfl ?_
   exact ov_move (v := .pointer (some ⟨b, 0, none⟩)) rfl (fun vals' hv _ => ⟨rfl, hv⟩)
  ·intro k101 vals w102 h105 h106 hW104 hA103
   have e107 := hA103 0 (by decide)
   refine obl rfl ?_
   exact ov_nilCheck (b := b) (o := 0) e107 (fun vals' hv _ => ⟨rfl, hv⟩)
  ·intro k108 vals w109 h112 h113 hW111 hA110
   have e114 := hA110 1 (by decide)
   refine obl rfl ?_
   exact fd76_1 e114 (fun vals' hv _ => ⟨rfl, hv⟩)
  ·intro k115 vals w116 h119 h120 hW118 hA117
   obtain rfl : k115 = 0 := Nat.le_antisymm h120 h119
   have hS121 : Sep G W ((EvW vl1 36 3 B) :: (Blk b5 (e.cells de0).toArray 36) :: (Blk b #[.int .i64 (most), vl1] 76) :: Rs) w116 := hW118
   have e122 := hA117 2 (by decide)
   refine obl rfl ?_
   exact ov_load1 (v := vl1) Try.isAgg22 e122 (blk_cellL (hS121.blk (i := 2) rfl) rfl) (fun vals' hv _ => ⟨rfl, hv⟩)
  ·intro k123 vals w124 h127 h128 hW126 hA125
   obtain rfl : k123 = 0 := Nat.le_antisymm h128 h127
   have hS129 : Sep G W ((EvW vl1 36 3 B) :: (Blk b5 (e.cells de0).toArray 36) :: (Blk b #[.int .i64 (most), vl1] 76) :: Rs) w124 := hW126
   have e130 := hA125 3 (by decide)
   refine obl rfl ?_
   exact ov_len (n := B.length) Try.underlying22 e130 (hS129.evwSl (i := 0) rfl).1 (fun vals' hv _ => ⟨rfl, hv⟩)
  ·intro k131 vals w132 h135 h136 hW134 hA133
   refine obl rfl ?_
   exact ov_move (v := .pointer (some ⟨b, 0, none⟩)) rfl (fun vals' hv _ => ⟨rfl, hv⟩)
  ·intro k137 vals w138 h141 h142 hW140 hA139
   have e143 := hA139 5 (by decide)
   refine obl rfl ?_
   exact ov_nilCheck (b := b) (o := 0) e143 (fun vals' hv _ => ⟨rfl, hv⟩)
  ·intro k144 vals w145 h148 h149 hW147 hA146
   have e150 := hA146 6 (by decide)
   refine obl rfl ?_
   exact fd76_0 e150 (fun vals' hv _ => ⟨rfl, hv⟩)
  ·intro k151 vals w152 h155 h156 hW154 hA153
   obtain rfl : k151 = 0 := Nat.le_antisymm h156 h155
   have hS157 : Sep G W ((EvW vl1 36 3 B) :: (Blk b5 (e.cells de0).toArray 36) :: (Blk b #[.int .i64 (most), vl1] 76) :: Rs) w152 := hW154
   have e158 := hA153 7 (by decide)
   refine obl rfl ?_
   exact ov_load1 (v := .int .i64 (most)) Try.isAgg3 e158 (blk_cellL (hS157.blk (i := 2) rfl) rfl) (fun vals' hv _ => ⟨rfl, hv⟩)
  ·intro k159 vals w160 h163 h164 hW162 hA161
   obtain rfl : k159 = 0 := Nat.le_antisymm h164 h163
   have hS165 : Sep G W ((EvW vl1 36 3 B) :: (Blk b5 (e.cells de0).toArray 36) :: (Blk b #[.int .i64 (most), vl1] 76) :: Rs) w160 := hW162
   have e166 := hA161 4 (by decide)
   have e167 := hA161 8 (by decide)
   refine obl rfl ?_
   exact ov_geq (k := .i64) (a := ((B.length : Nat) : Int)) (b := most) e166 e167 (fun vals' hv _ => ⟨rfl, hv⟩)
  intro vals w168 hW169 hA170
  have hS171 : Sep G W ((EvW vl1 36 3 B) :: (Blk b5 (e.cells de0).toArray 36) :: (Blk b #[.int .i64 (most), vl1] 76) :: Rs) w168 := hW169
  have e172 := hA170 9 (by decide)
  refine st_env (kv := [(0, .pointer (some ⟨b, 0, none⟩)), (3, .pointer (some ⟨b5, 0, none⟩)), (5, .int .i64 ((k : Nat) : Int)), (6, .int .i64 ((k : Nat) : Int)), (7, .pointer (some ⟨b, 0, none⟩)), (8, .pointer (some ⟨b, 0, none⟩)), (9, .pointer (some ⟨b, 1, none⟩)), (10, vl1), (11, .int .i64 ((B.length : Nat) : Int)), (12, .bool false), (35, .bool (decide (most ≤ ((B.length : Nat) : Int))))]) ⟨rfl, rfl, rfl, rfl, rfl, rfl, rfl, rfl, rfl, rfl, (by exact e172), trivial⟩ (fun ρw168 => ?_)
  refine st_nil ?_
  cases hc173 : decide (most ≤ ((B.length : Nat) : Int))
  ·skip
   have hc173r := hc173
   have hc173 := of_decide_eq_false hc173
   refine WP_cond_f rfl ?_
   refine WP_skip ?_
   refine WP_seq ?_
   obtain ⟨ps, hp9, hok9, hS174⟩ := hS171.evwFlat
   have hpl9 : ps.length = B.length := by rw [← hp9, List.length_map]
   have hS175 : Sep G W ((RowE (α := EvP) own 36 vl1 ps) :: (StarD 3 ps) :: (Blk b5 (e.cells de0).toArray 36) :: (Blk b #[.int .i64 (most), vl1] 76) :: Rs) w168 := hS174
   have hr176 := hS175.row (i := 0) rfl
   have hr176s : ps.length * 96 ≤ 140737488355328 := hr176.2
   refine WP_draw4 (WF [fun vals wq => Sep G W ((RowE (α := EvP) own 36 vl1 ps) :: (StarD 3 ps) :: (Blk b5 (e.cells de0).toArray 36) :: (Blk b #[.int .i64 (most), vl1] 76) :: Rs) wq, fun vals wq => ∃ (v226 : Value), (vals 6 = (.agg (e.cells v226).toArray : Value)) ∧ Sep G W ((RowE (α := Int) own 3 v226 e.deps) :: (RowE (α := EvP) own 36 vl1 ps) :: (StarD 3 ps) :: (Blk b5 (e.cells de0).toArray 36) :: (Blk b #[.int .i64 (most), vl1] 76) :: Rs) wq, fun vals wq => ∃ (v226 : Value) (b239 : Nat), (vals 6 = (.agg (e.cells v226).toArray : Value)) ∧ (vals 7 = ((.slice (some ⟨b239, 0, none⟩) 1 1) : Value)) ∧ Sep G W ((Blk b239 (e.cells v226).toArray 36) :: (RowE (α := Int) own 3 v226 e.deps) :: (RowE (α := EvP) own 36 vl1 ps) :: (StarD 3 ps) :: (Blk b5 (e.cells de0).toArray 36) :: (Blk b #[.int .i64 (most), vl1] 76) :: Rs) wq, fun vals wq => ∃ (v226 : Value) (b239 : Nat) (v252 : Value), (vals 6 = (.agg (e.cells v226).toArray : Value)) ∧ (vals 7 = ((.slice (some ⟨b239, 0, none⟩) 1 1) : Value)) ∧ (vals 8 = (v252 : Value)) ∧ Sep G W ((RowE (α := EvP) own 36 v252 (ps ++ [(mkP e v226)])) :: (RowE (α := Int) own 3 v226 e.deps) :: (StarD 3 ps) :: (Blk b5 (e.cells de0).toArray 36) :: (Blk b #[.int .i64 (most), vl1] 76) :: Rs) wq, fun vals wq => ∃ (v226 : Value) (b239 : Nat) (v252 : Value), (vals 6 = (.agg (e.cells v226).toArray : Value)) ∧ (vals 7 = ((.slice (some ⟨b239, 0, none⟩) 1 1) : Value)) ∧ (vals 8 = (v252 : Value)) ∧ Sep G W ((RowE (α := EvP) own 36 v252 (ps ++ [(mkP e v226)])) :: (RowE (α := Int) own 3 v226 e.deps) :: (StarD 3 ps) :: (Blk b5 (e.cells de0).toArray 36) :: (Blk b #[.int .i64 (most), v252] 76) :: Rs) wq]) (AF [Vl 0 (.pointer (some ⟨b, 0, none⟩)), Vl 1 (.pointer (some ⟨b, 0, none⟩)), Vl 2 (.pointer (some ⟨b, 0, none⟩)), Vl 3 (.pointer (some ⟨b, 1, none⟩)), Vl 4 (vl1), Vl 5 (.agg (e.cells de0).toArray), fun _ => True, fun _ => True, fun _ => True, Vl 9 (.pointer (some ⟨b, 0, none⟩)), Vl 10 (.pointer (some ⟨b, 1, none⟩)), fun _ => True]) [[], [], [1], [1, 2], [1, 2, 3], [], [5], [5, 6], [1, 2, 3, 4, 5, 6, 7], [0, 1, 2, 3, 4, 5, 6, 7, 8], [0, 1, 2, 3, 4, 5, 6, 7, 8, 9], [0, 1, 2, 3, 4, 5, 6, 7, 8, 9, 10]] [6, 7, 8, 11] [(0, 3), (0, 2), (0, 2), (0, 2), (0, 2), (0, 0), (0, 0), (1, 1), (2, 2), (3, 3), (3, 3), (3, 3)] (by kernel_rfl) (by kernel_rfl) (by kernel_rfl) rfl (by kernel_rfl) (by kernel_rfl) (fun _ h1 h2 h3 h4 _ => hS175.same h1 h2 h3 h4) ?_ (AF_loc ⟨dA, dA, dA, dA, dA, dA, dT, dT, dT, dA, dA, dT, trivial⟩) ⟨?_, ?_, ?_, ?_, ?_, ?_, ?_, ?_, ?_, ?_, ?_, ?_, trivial⟩ ?_
   ·intro k vals vals' w hv h
    have e : ∀ j ∈ ([6, 7, 8, 11] : List Nat), vals' j = vals j := hv
    match k, h with
    | 0, h => exact h
    | 1, h => exact (by simpa only [WF, List.getElem?_cons_zero, List.getElem?_cons_succ, e 6 (by decide)] using h)
    | 2, h => exact (by simpa only [WF, List.getElem?_cons_zero, List.getElem?_cons_succ, e 6 (by decide), e 7 (by decide)] using h)
    | 3, h => exact (by simpa only [WF, List.getElem?_cons_zero, List.getElem?_cons_succ, e 6 (by decide), e 7 (by decide), e 8 (by decide)] using h)
    | 4, h => exact (by simpa only [WF, List.getElem?_cons_zero, List.getElem?_cons_succ, e 6 (by decide), e 7 (by decide), e 8 (by decide)] using h)
    | _ + 5, _ => trivial
   ·intro k285 vals w286 h289 h290 hW288 hA287
    refine obl rfl ?_
    exact ov_move (v := .pointer (some ⟨b, 0, none⟩)) rfl (fun vals' hv _ => ⟨rfl, hv⟩)
   ·intro k291 vals w292 h295 h296 hW294 hA293
    refine obl rfl ?_
    exact ov_move (v := .pointer (some ⟨b, 0, none⟩)) rfl (fun vals' hv _ => ⟨rfl, hv⟩)
   ·intro k297 vals w298 h301 h302 hW300 hA299
    have e303 := hA299 1 (by decide)
    refine obl rfl ?_
    exact ov_nilCheck (b := b) (o := 0) e303 (fun vals' hv _ => ⟨rfl, hv⟩)
   ·intro k304 vals w305 h308 h309 hW307 hA306
    have e310 := hA306 2 (by decide)
    refine obl rfl ?_
    exact fd76_1 e310 (fun vals' hv _ => ⟨rfl, hv⟩)
   ·intro k311 vals w312 h315 h316 hW314 hA313
    have hkk : k311 = 0 ∨ k311 = 1 ∨ k311 = 2 := by have h1 : 0 ≤ k311 := h315; have h2 : k311 ≤ 2 := h316; omega
    rcases hkk with rfl | rfl | rfl
    ·skip
     have hS317 : Sep G W ((RowE (α := EvP) own 36 vl1 ps) :: (StarD 3 ps) :: (Blk b5 (e.cells de0).toArray 36) :: (Blk b #[.int .i64 (most), vl1] 76) :: Rs) w312 := hW314
     have e318 := hA313 3 (by decide)
     refine obl rfl ?_
     exact ov_load1 (v := vl1) Try.isAgg22 e318 (blk_cellL (hS317.blk (i := 3) rfl) rfl) (fun vals' hv _ => ⟨rfl, hv⟩)
    ·skip
     obtain ⟨v226, he230, hS319⟩ := hW314
     have e320 := hA313 3 (by decide)
     refine obl rfl ?_
     exact ov_load1 (v := vl1) Try.isAgg22 e320 (blk_cellL (hS319.blk (i := 4) rfl) rfl) (fun vals' hv _ => ⟨rfl, hv⟩)
    ·skip
     obtain ⟨v226, b239, he230, he242, hS321⟩ := hW314
     have e322 := hA313 3 (by decide)
     refine obl rfl ?_
     exact ov_load1 (v := vl1) Try.isAgg22 e322 (blk_cellL (hS321.blk (i := 5) rfl) rfl) (fun vals' hv _ => ⟨rfl, hv⟩)
   ·intro k323 vals w324 h327 h328 hW326 hA325
    obtain rfl : k323 = 0 := Nat.le_antisymm h328 h327
    have hS329 : Sep G W ((RowE (α := EvP) own 36 vl1 ps) :: (StarD 3 ps) :: (Blk b5 (e.cells de0).toArray 36) :: (Blk b #[.int .i64 (most), vl1] 76) :: Rs) w324 := hW326
    refine obl rfl ?_
    exact ov_loadk (k := 10) Try.isAgg36 Try.sizeOf36 rfl rfl (CellsAt.all (hS329.blk (i := 2) rfl)) (fun vals' hv _ => ⟨rfl, hv⟩)
   ·intro k218 vals w219 h222 h223 hW221 hA220
    obtain rfl : k218 = 0 := Nat.le_antisymm h223 h222
    have hS224 : Sep G W ((RowE (α := EvP) own 36 vl1 ps) :: (StarD 3 ps) :: (Blk b5 (e.cells de0).toArray 36) :: (Blk b #[.int .i64 (most), vl1] 76) :: Rs) w219 := hW221
    have e225 := hA220 5 (by decide)
    refine obl rfl ?_
    refine (ov_call (f := 23) (vals := [.agg (e.cells de0).toArray]) (cap := []) (show _ = (.func (.func 23) #[] #[] : Value) from rfl) (mapL ⟨e225, trivial⟩) Try.call23 (D_copyEvent (e := e) hde0 oe hS224) ?_)
    rintro _ w227 ⟨v226, rfl, hS228⟩
    have hr229 := hS228.row (i := 0) rfl
    have hr229s : e.deps.length * 8 ≤ 140737488355328 := hr229.2
    intro vals' hv hv'
    refine ⟨?_, trivial⟩
    show ∃ (v226 : Value), (vals' 6 = (.agg (e.cells v226).toArray : Value)) ∧ Sep G W ((RowE (α := Int) own 3 v226 e.deps) :: (RowE (α := EvP) own 36 vl1 ps) :: (StarD 3 ps) :: (Blk b5 (e.cells de0).toArray 36) :: (Blk b #[.int .i64 (most), vl1] 76) :: Rs) w227
    exact ⟨v226, hv, hS228⟩
   ·intro k231 vals w232 h235 h236 hW234 hA233
    obtain rfl : k231 = 1 := Nat.le_antisymm h236 h235
    obtain ⟨v226, he230, hS237⟩ := hW234
    refine obl rfl ?_
    refine (ov_buildSlice (k := 10) (parts' := [(0, .agg (e.cells v226).toArray)]) (c := (e.cells v226).toArray) Try.underlying22 Try.sizeOf36 Try.zeroValue36 (by decide) (mapP ⟨rfl, he230, trivial⟩) (by kernel_rfl) ?_)
    intro w240 b239 hn238
    have hS241 : Sep G W ((Blk b239 (e.cells v226).toArray 36) :: (RowE (α := Int) own 3 v226 e.deps) :: (RowE (α := EvP) own 36 vl1 ps) :: (StarD 3 ps) :: (Blk b5 (e.cells de0).toArray 36) :: (Blk b #[.int .i64 (most), vl1] 76) :: Rs) w240 := hS237.new hn238
    intro vals' hv hv'
    refine ⟨?_, trivial⟩
    show ∃ (v226 : Value) (b239 : Nat), (vals' 6 = (.agg (e.cells v226).toArray : Value)) ∧ (vals' 7 = ((.slice (some ⟨b239, 0, none⟩) 1 1) : Value)) ∧ Sep G W ((Blk b239 (e.cells v226).toArray 36) :: (RowE (α := Int) own 3 v226 e.deps) :: (RowE (α := EvP) own 36 vl1 ps) :: (StarD 3 ps) :: (Blk b5 (e.cells de0).toArray 36) :: (Blk b #[.int .i64 (most), vl1] 76) :: Rs) w240
    exact ⟨v226, b239, (by rw [hv' 6 (by decide)]; exact he230), hv, hS241⟩
   ·intro k243 vals w244 h247 h248 hW246 hA245
    obtain rfl : k243 = 2 := Nat.le_antisymm h248 h247
    obtain ⟨v226, b239, he230, he242, hS249⟩ := hW246
    have e250 := hA245 4 (by decide)
    refine obl rfl ?_
    have hbk254 := hS249.blk (i := 0) rfl
    have hS255 : Sep G W ((RowE (α := EvP) own 36 vl1 ps) :: (RowE (α := Int) own 3 v226 e.deps) :: (StarD 3 ps) :: (Blk b5 (e.cells de0).toArray 36) :: (Blk b #[.int .i64 (most), vl1] 76) :: Rs) w244 := hS249.sel 6 [2, 1, 3, 4, 5] (Nat.le_add_left _ _) rfl rfl
    have hS256 : Sep G W ((RowE (α := EvP) own 36 vl1 ps) :: Emp :: (RowE (α := Int) own 3 v226 e.deps) :: (StarD 3 ps) :: (Blk b5 (e.cells de0).toArray 36) :: (Blk b #[.int .i64 (most), vl1] 76) :: Rs) w244 := hS255.emp1
    refine (ov_append1S (src := own) (bytes := 96) (x1 := (mkP e v226)) hS256 el22 e250 he242 hbk254 (fun _ _ _ => (show _ from mkP_cells (hS249.row (i := 1) rfl).1.one)) (by first | omega | (simp only [List.length_append, List.length_cons, List.length_nil, List.length_take, List.length_drop]; omega)) rfl ?_)
    intro v252 w251 hS253
    have hr257 := hS253.row (i := 0) rfl
    have hr257s : (ps ++ [(mkP e v226)]).length * 96 ≤ 140737488355328 := hr257.2
    intro vals' hv hv'
    refine ⟨?_, trivial⟩
    show ∃ (v226 : Value) (b239 : Nat) (v252 : Value), (vals' 6 = (.agg (e.cells v226).toArray : Value)) ∧ (vals' 7 = ((.slice (some ⟨b239, 0, none⟩) 1 1) : Value)) ∧ (vals' 8 = (v252 : Value)) ∧ Sep G W ((RowE (α := EvP) own 36 v252 (ps ++ [(mkP e v226)])) :: (RowE (α := Int) own 3 v226 e.deps) :: (StarD 3 ps) :: (Blk b5 (e.cells de0).toArray 36) :: (Blk b #[.int .i64 (most), vl1] 76) :: Rs) w251
    exact ⟨v226, b239, v252, (by rw [hv' 6 (by decide)]; exact he230), (by rw [hv' 7 (by decide)]; exact he242), hv, hS253⟩
   ·intro k330 vals w331 h334 h335 hW333 hA332
    have e336 := hA332 0 (by decide)
    refine obl rfl ?_
    exact ov_nilCheck (b := b) (o := 0) e336 (fun vals' hv _ => ⟨rfl, hv⟩)
   ·intro k337 vals w338 h341 h342 hW340 hA339
    have e343 := hA339 9 (by decide)
    refine obl rfl ?_
    exact fd76_1 e343 (fun vals' hv _ => ⟨rfl, hv⟩)
   ·intro k273 vals w274 h277 h278 hW276 hA275
    obtain rfl : k273 = 3 := Nat.le_antisymm h278 h277
    obtain ⟨v226, b239, v252, he230, he242, he258, hS279⟩ := hW276
    have e280 := hA275 10 (by decide)
    refine obl rfl ?_
    have hr283 := hS279.row (i := 0) rfl
    have hr283s : (ps ++ [(mkP e v226)]).length * 96 ≤ 140737488355328 := hr283.2
    refine (ov_store1 (v := v252) (c := [.int .i64 (most), vl1]) (c' := [.int .i64 (most), v252]) Try.sizeOf22 e280 he258 (hS279.blk (i := 4) rfl) hr283.1.one rfl rfl ?_)
    intro w281 hp282
    have hS284 : Sep G W ((RowE (α := EvP) own 36 v252 (ps ++ [(mkP e v226)])) :: (RowE (α := Int) own 3 v226 e.deps) :: (StarD 3 ps) :: (Blk b5 (e.cells de0).toArray 36) :: (Blk b #[.int .i64 (most), v252] 76) :: Rs) w281 := hS279.put (i := 4) rfl hp282
    intro vals' hv hv'
    refine ⟨?_, trivial⟩
    show ∃ (v226 : Value) (b239 : Nat) (v252 : Value), (vals' 6 = (.agg (e.cells v226).toArray : Value)) ∧ (vals' 7 = ((.slice (some ⟨b239, 0, none⟩) 1 1) : Value)) ∧ (vals' 8 = (v252 : Value)) ∧ Sep G W ((RowE (α := EvP) own 36 v252 (ps ++ [(mkP e v226)])) :: (RowE (α := Int) own 3 v226 e.deps) :: (StarD 3 ps) :: (Blk b5 (e.cells de0).toArray 36) :: (Blk b #[.int .i64 (most), v252] 76) :: Rs) w281
    exact ⟨v226, b239, v252, (by rw [hv' 6 (by decide)]; exact he230), (by rw [hv' 7 (by decide)]; exact he242), (by rw [hv' 8 (by decide)]; exact he258), hS284⟩
   intro vals w344 hW345 hA346
   obtain ⟨v226, b239, v252, he230, he242, he258, hS347⟩ := hW345
   refine st_env (kv := [(0, .pointer (some ⟨b, 0, none⟩)), (3, .pointer (some ⟨b5, 0, none⟩)), (5, .int .i64 ((k : Nat) : Int)), (6, .int .i64 ((k : Nat) : Int)), (7, .pointer (some ⟨b, 0, none⟩)), (8, .pointer (some ⟨b, 0, none⟩)), (9, .pointer (some ⟨b, 1, none⟩)), (10, vl1), (11, .int .i64 ((B.length : Nat) : Int)), (12, .bool false), (35, .bool false)]) ⟨rfl, rfl, rfl, rfl, rfl, rfl, rfl, rfl, rfl, rfl, rfl, trivial⟩ (fun ρw344 => ?_)
   refine st_nil ?_
   refine WP_seq ?_
   have hS348 : Sep G W ((EvW v252 36 3 (B ++ [e])) :: (Blk b5 (e.cells de0).toArray 36) :: (Blk b #[.int .i64 (most), v252] 76) :: Rs) w344 := Sep.evwSnoc hS347 hp9 hok9 oe
   refine WP_region0 (by kernel_rfl) (fun _ => ?_)
   refine st (ov_assign (v := .bool true) rfl ?_)
   refine st_nil ?_
   refine WP_ret ?_
   refine fin1 Try.results24 (show _ = (.bool true : Value) from rfl) ?_
   have hS349 : Sep G W ((Blk b #[.int .i64 (most), v252] 76) :: (EvW v252 36 3 (B ++ [e])) :: (Blk b5 (e.cells de0).toArray 36) :: Rs) w344 := hS348.sel 3 [2, 0, 1] (Nat.le_add_left _ _) rfl rfl
   have hS350 : Sep G W ((RBufO b most (B ++ [e])) :: (Blk b5 (e.cells de0).toArray 36) :: Rs) w344 := RBufO.close (most := most) (B := (B ++ [e])) hS349
   have hS351 : Sep G W ((RBufO b most (B ++ [e])) :: Rs) w344 := hS350.sel 2 [0] (Nat.le_add_left _ _) rfl rfl
   refine ⟨(B ++ [e]), ?_, ?_, hS351⟩
   · rw [(rAdd_yes (by rw [hc173r, hhn9]; rfl)).1]
   · exact (rAdd_yes (by rw [hc173r, hhn9]; rfl)).2
  ·skip
   have hc173r := hc173
   have hc173 := of_decide_eq_true hc173
   refine WP_cond_t rfl ?_
   refine WP_seq ?_
   refine WP_region0 (by kernel_rfl) (fun _ => ?_)
   refine st (ov_assign (v := .bool false) rfl ?_)
   refine st_nil ?_
   refine WP_ret ?_
   refine fin1 Try.results24 (show _ = (.bool false : Value) from rfl) ?_
   have hS352 : Sep G W ((Blk b #[.int .i64 (most), vl1] 76) :: (EvW vl1 36 3 B) :: (Blk b5 (e.cells de0).toArray 36) :: Rs) w168 := hS171.sel 3 [2, 0, 1] (Nat.le_add_left _ _) rfl rfl
   have hS353 : Sep G W ((RBufO b most B) :: (Blk b5 (e.cells de0).toArray 36) :: Rs) w168 := RBufO.close (most := most) (B := B) hS352
   have hS354 : Sep G W ((RBufO b most B) :: Rs) w168 := hS353.sel 2 [0] (Nat.le_add_left _ _) rfl rfl
   refine ⟨B, ?_, ?_, hS354⟩
   · rw [(rAdd_no (by first | (rw [has_at (by omega) hc173r]; exact Bool.or_true _) | (rw [hc173r]; rfl))).1]
   · exact (rAdd_no (by first | (rw [has_at (by omega) hc173r]; exact Bool.or_true _) | (rw [hc173r]; rfl))).2
 ·skip
  have hc20r := hc20
  have hc20 := of_decide_eq_true hc20
  refine WP_cond_t rfl ?_
  refine WP_skip ?_
  refine WP_seq ?_
  refine WP_block ?_
  refine WP_seq ?_
  refine WP_draw4 (WF [fun vals wq => Sep G9 w6 ((Blk b5 (e.cells de0).toArray 36) :: (Blk b #[.int .i64 (most), vl1] 76) :: Rs) wq]) (AF [Vl 0 (.pointer (some ⟨b, 0, none⟩)), Vl 1 (.pointer (some ⟨b, 0, none⟩)), Vl 2 (.pointer (some ⟨b, 1, none⟩)), Vl 3 (vl1), Vl 4 (.int .i64 ((k : Nat) : Int)), Vl 5 (.pointer (some ⟨sb vl1, so vl1 + k * 10, none⟩)), Vl 6 (.pointer (some ⟨sb vl1, so vl1 + k * 10, none⟩)), Vl 7 (.agg #[.int .i64 ((B.getD k default).origin), .int .i64 ((B.getD k default).seq)]), Vl 8 (.pointer (some ⟨b5, 0, none⟩)), Vl 9 (.agg #[.int .i64 (e.origin), .int .i64 (e.seq)]), Vl 10 (.bool (decide ((B.getD k default).origin = e.origin ∧ (B.getD k default).seq = e.seq)))]) [[], [0], [0, 1], [0, 1, 2], [], [0, 1, 2, 3, 4], [0, 1, 2, 3, 4, 5], [0, 1, 2, 3, 4, 5, 6], [], [8], [0, 1, 2, 3, 4, 5, 6, 7, 8, 9]] [] [(0, 0), (0, 0), (0, 0), (0, 0), (0, 0), (0, 0), (0, 0), (0, 0), (0, 0), (0, 0), (0, 0)] (by kernel_rfl) (by kernel_rfl) (by kernel_rfl) rfl (by kernel_rfl) (by kernel_rfl) (fun _ h1 h2 h3 h4 _ => hS19.same h1 h2 h3 h4) ?_ (AF_loc ⟨dA, dA, dA, dA, dA, dA, dA, dA, dA, dA, dA, trivial⟩) ⟨?_, ?_, ?_, ?_, ?_, ?_, ?_, ?_, ?_, ?_, ?_, trivial⟩ ?_
  ·intro k vals vals' w hv h
   match k, h with
   | 0, h => exact h
   | _ + 1, _ => trivial
  ·intro k441 vals w442 h445 h446 hW444 hA443
   refine obl rfl ?_
   exact ov_move (v := .pointer (some ⟨b, 0, none⟩)) rfl (fun vals' hv _ => ⟨rfl, hv⟩)
  ·intro k447 vals w448 h451 h452 hW450 hA449
   have e453 := hA449 0 (by decide)
   refine obl rfl ?_
   exact ov_nilCheck (b := b) (o := 0) e453 (fun vals' hv _ => ⟨rfl, hv⟩)
  ·intro k454 vals w455 h458 h459 hW457 hA456
   have e460 := hA456 1 (by decide)
   refine obl rfl ?_
   exact fd76_1 e460 (fun vals' hv _ => ⟨rfl, hv⟩)
  ·intro k461 vals w462 h465 h466 hW464 hA463
   obtain rfl : k461 = 0 := Nat.le_antisymm h466 h465
   have hS467 : Sep G9 w6 ((Blk b5 (e.cells de0).toArray 36) :: (Blk b #[.int .i64 (most), vl1] 76) :: Rs) w462 := hW464
   have e468 := hA463 2 (by decide)
   refine obl rfl ?_
   exact ov_load1 (v := vl1) Try.isAgg22 e468 (blk_cellL (hS467.blk (i := 1) rfl) rfl) (fun vals' hv _ => ⟨rfl, hv⟩)
  ·intro k469 vals w470 h473 h474 hW472 hA471
   refine obl rfl ?_
   exact ov_move (v := .int .i64 ((k : Nat) : Int)) rfl (fun vals' hv _ => ⟨rfl, hv⟩)
  ·intro k475 vals w476 h479 h480 hW478 hA477
   obtain rfl : k475 = 0 := Nat.le_antisymm h480 h479
   have hS481 : Sep G9 w6 ((Blk b5 (e.cells de0).toArray 36) :: (Blk b #[.int .i64 (most), vl1] 76) :: Rs) w476 := hW478
   have e482 := hA477 3 (by decide)
   have e483 := hA477 4 (by decide)
   refine obl rfl ?_
   have hi484 : k < B.length := (by first | omega | (simp only [lens]; omega))
   exact ov_indexAddrN (k := 10) (i := k) Try.underlying22 Try.sizeOf36 e482 hrd15.sl e483 hi484 (fun vals' hv _ => ⟨rfl, hv⟩)
  ·intro k485 vals w486 h489 h490 hW488 hA487
   have e491 := hA487 5 (by decide)
   refine obl rfl ?_
   exact fd36_0 e491 (fun vals' hv _ => ⟨rfl, hv⟩)
  ·intro k492 vals w493 h496 h497 hW495 hA494
   obtain rfl : k492 = 0 := Nat.le_antisymm h497 h496
   have hS498 : Sep G9 w6 ((Blk b5 (e.cells de0).toArray 36) :: (Blk b #[.int .i64 (most), vl1] 76) :: Rs) w493 := hW495
   have e499 := hA494 6 (by decide)
   refine obl rfl ?_
   have hi501 : k < B.length := (by first | omega | (simp only [lens]; omega))
   obtain ⟨hce500, hde500_0, hoke500⟩ := hrd15.ev hi501
   rw [← getD_at default hi501] at hce500 hde500_0 hoke500
   have hsm502 : ((B.getD k default).deps).length * 8 ≤ 140737488355328 := hde500_0.small
   have hcw503 := hS498.cells hce500 (hrd15.foot (ne_of_lt hi501))
   exact ov_loadk (k := 2) (cs := [.int .i64 ((B.getD k default).origin), .int .i64 ((B.getD k default).seq)]) Try.isAgg33 Try.sizeOf33 rfl e499 (CellsAt.sub hcw503 0 (cs2 := [.int .i64 ((B.getD k default).origin), .int .i64 ((B.getD k default).seq)]) rfl) (fun vals' hv _ => ⟨rfl, hv⟩)
  ·intro k504 vals w505 h508 h509 hW507 hA506
   refine obl rfl ?_
   exact fd36_0 rfl (fun vals' hv _ => ⟨rfl, hv⟩)
  ·intro k510 vals w511 h514 h515 hW513 hA512
   obtain rfl : k510 = 0 := Nat.le_antisymm h515 h514
   have hS516 : Sep G9 w6 ((Blk b5 (e.cells de0).toArray 36) :: (Blk b #[.int .i64 (most), vl1] 76) :: Rs) w511 := hW513
   have e517 := hA512 8 (by decide)
   refine obl rfl ?_
   exact ov_loadk (k := 2) (cs := [.int .i64 (e.origin), .int .i64 (e.seq)]) Try.isAgg33 Try.sizeOf33 rfl e517 (CellsAt.sub (CellsAt.all (hS516.blk (i := 0) rfl)) 0 (cs2 := [.int .i64 (e.origin), .int .i64 (e.seq)]) rfl) (fun vals' hv _ => ⟨rfl, hv⟩)
  ·intro k518 vals w519 h522 h523 hW521 hA520
   obtain rfl : k518 = 0 := Nat.le_antisymm h523 h522
   have hS524 : Sep G9 w6 ((Blk b5 (e.cells de0).toArray 36) :: (Blk b #[.int .i64 (most), vl1] 76) :: Rs) w519 := hW521
   have e525 := hA520 7 (by decide)
   have e526 := hA520 9 (by decide)
   refine obl rfl ?_
   exact ov_eqlS (e := decide ((B.getD k default).origin = e.origin ∧ (B.getD k default).seq = e.seq)) (xs := #[.int .i64 ((B.getD k default).origin), .int .i64 ((B.getD k default).seq)]) (ys := #[.int .i64 (e.origin), .int .i64 (e.seq)]) eqS33 e525 e526 (fun vals' hv _ => ⟨rfl, hv⟩)
  intro vals w527 hW528 hA529
  have hS530 : Sep G9 w6 ((Blk b5 (e.cells de0).toArray 36) :: (Blk b #[.int .i64 (most), vl1] 76) :: Rs) w527 := hW528
  have e531 := hA529 10 (by decide)
  refine st_env (kv := [(0, .pointer (some ⟨b, 0, none⟩)), (3, .pointer (some ⟨b5, 0, none⟩)), (5, .int .i64 ((k : Nat) : Int)), (6, .int .i64 ((k : Nat) : Int)), (7, .pointer (some ⟨b, 0, none⟩)), (8, .pointer (some ⟨b, 0, none⟩)), (9, .pointer (some ⟨b, 1, none⟩)), (10, vl1), (11, .int .i64 ((B.length : Nat) : Int)), (12, .bool true), (25, .bool (decide ((B.getD k default).origin = e.origin ∧ (B.getD k default).seq = e.seq)))]) ⟨rfl, rfl, rfl, rfl, rfl, rfl, rfl, rfl, rfl, rfl, (by exact e531), trivial⟩ (fun ρw527 => ?_)
  refine st_nil ?_
  cases hc532 : decide ((B.getD k default).origin = e.origin ∧ (B.getD k default).seq = e.seq)
  ·skip
   have hc532r := hc532
   have hc532 := of_decide_eq_false hc532
   refine WP_cond_f rfl ?_
   refine WP_skip ?_
   refine WP_region0 (by kernel_rfl) (fun _ => ?_)
   refine st (ov_move (v := .int .i64 ((k : Nat) : Int)) rfl ?_)
   have hr533 : InR ((k + 1 : Nat) : Int) := by first | omega | (simp only [lens]; omega)
   refine st (ov_add (r := ((k + 1 : Nat) : Int)) (k := .i64) (a := ((k : Nat) : Int)) (b := 1) rfl rfl (by rw [show (((k : Nat) : Int) + 1 : Int) = ((k + 1 : Nat) : Int) by first | omega | (simp only [lens]; omega)]; exact wrap_in hr533) ?_)
   refine st (ov_assign (v := .int .i64 ((k + 1 : Nat) : Int)) rfl ?_)
   refine st_nil ?_
   exact ⟨_, by omega, k + 1, _, rfl, setAll_self ⟨rfl, rfl, rfl, trivial⟩, by omega, (all_step hm hc532r), hS530⟩
  ·skip
   have hc532r := hc532
   have hc532 := of_decide_eq_true hc532
   refine WP_cond_t rfl ?_
   refine WP_seq ?_
   refine WP_region0 (by kernel_rfl) (fun _ => ?_)
   refine st (ov_assign (v := .bool false) rfl ?_)
   refine st_nil ?_
   refine WP_ret ?_
   refine fin1 Try.results24 (show _ = (.bool false : Value) from rfl) ?_
   have hS534 : Sep G W ((EvW vl1 36 3 B) :: (Blk b5 (e.cells de0).toArray 36) :: (Blk b #[.int .i64 (most), vl1] 76) :: Rs) w527 := hk14 _ _ hS530
   have hS535 : Sep G W ((Blk b #[.int .i64 (most), vl1] 76) :: (EvW vl1 36 3 B) :: (Blk b5 (e.cells de0).toArray 36) :: Rs) w527 := hS534.sel 3 [2, 0, 1] (Nat.le_add_left _ _) rfl rfl
   have hS536 : Sep G W ((RBufO b most B) :: (Blk b5 (e.cells de0).toArray 36) :: Rs) w527 := RBufO.close (most := most) (B := B) hS535
   have hS537 : Sep G W ((RBufO b most B) :: Rs) w527 := hS536.sel 2 [0] (Nat.le_add_left _ _) rfl rfl
   refine ⟨B, ?_, ?_, hS537⟩
   · rw [(rAdd_no (by first | (rw [has_at (by omega) hc532r]; exact Bool.or_true _) | (rw [hc532r]; rfl))).1]
   · exact (rAdd_no (by first | (rw [has_at (by omega) hc532r]; exact Bool.or_true _) | (rw [hc532r]; rfl))).2

theorem D_rbAddL {G : Nat → Prop} {W w : World} {Rs : List HP} {b : Nat} {most : Int} {B : List Ev} {e : Ev} {de0 : Value} (hde0 : RdS W G de0 e.deps) (oe : e.Ok) (hS0 : Sep G W ((RBufO b most B) :: Rs) w) (hmost : InR most) (hBl : B.length ≤ 1000000) : Ret Try.prog 24 [.pointer (some ⟨b, 0, none⟩), .agg (e.cells de0).toArray] w (fun r w' => r = (.bool ((bAddB most B e)) : Value) ∧ Sep G W ((RBufO b most (rAddB most B e)) :: Rs) w') := by
  refine Ret.mono (D_rbAdd hde0 oe hS0 hmost hBl) ?_
  rintro r w' ⟨B1, h1, h2, h3⟩
  subst h2
  exact ⟨h1, h3⟩

end Go.Proofs.Ytmiihhbeclhaoaa
end

section
/- Steps of the proofs of this seat: part D11. -/
set_option linter.unusedSimpArgs false
set_option linter.unusedVariables false
set_option maxRecDepth 8000
set_option maxHeartbeats 4000000
namespace Go.Proofs.Ytmiihhbeclhaoaa
open Go.Proofs Go.RowKit

theorem drop_eq {α : Type} [Inhabited α] {l : List α} {i : Nat} (h : i < l.length) : (l.take i).eraseIdx i = l.take i := List.eraseIdx_of_length_le (by rw [List.length_take]; omega)
theorem drop_same {ps : List EvP} {i : Nat} (hi : i < ps.length) : (ps.take (i + 1)).eraseIdx i = (ps.take i).eraseIdx i := by
  rw [drop_eq hi, List.eraseIdx_eq_take_drop_succ, List.take_take, List.drop_take, Nat.min_eq_left (Nat.le_succ i), Nat.sub_self, List.take_zero, List.append_nil]
theorem drop_ne {ps : List EvP} {i k : Nat} (hk : k < ps.length) (h : k ≠ i) : (ps.take (k + 1)).eraseIdx i = (ps.take k).eraseIdx i ++ [ps.getD k default] := by
  have h1 : ps.take (k + 1) = ps.take k ++ [ps.getD k default] := take_snocP hk
  rw [h1]
  rcases Nat.lt_or_ge k i with h2 | h2
  · rw [List.eraseIdx_of_length_le (by simp; omega), List.eraseIdx_of_length_le (by simp; omega)]
  · rw [List.eraseIdx_append_of_lt_length (by rw [List.length_take]; omega)]
theorem drop_len {ps : List EvP} {i k : Nat} : ((ps.take k).eraseIdx i).length ≤ k := by
  have h1 : ((ps.take k).eraseIdx i).length ≤ (ps.take k).length := List.length_eraseIdx_le ..
  rw [List.length_take] at h1; omega
theorem D_drop {G : Nat → Prop} {W w : World} {Rs : List HP} {b : Nat} {most : Int} {B : List Ev} {i : Nat} (hi : i < B.length) (hS0 : Sep G W ((RBufO b most B) :: Rs) w) (hmost : InR most) : Ret Try.prog 59 [.pointer (some ⟨b, 0, none⟩), .int .i64 ((i : Nat) : Int)] w (fun r w' => r = (.tuple #[] : Value) ∧ Sep G W ((RBufO b most (B.eraseIdx i)) :: Rs) w') := by
 refine Calls_of_WP (args := [.pointer (some ⟨b, 0, none⟩), .int .i64 ((i : Nat) : Int)]) Try.func59 rfl rfl ?_
 obtain ⟨vl1, hS2⟩ := RBufO.open hS0
 have hS2t : Sep G W ((Blk b #[.int .i64 (most), vl1] 76) :: (EvW vl1 36 3 B) :: Rs) w := hS2
 have hes3 : B.length * 96 ≤ 140737488355328 := (hS2t.evwSl (i := 1) rfl).2
 refine WP_seq ?_
 refine WP_region0 (by kernel_rfl) (fun _ => ?_)
 refine st (ov_assign (v := (.slice none 0 0)) rfl ?_)
 refine st_nil ?_
 refine WP_seq ?_
 refine WP_seq ?_
 have hS4 : Sep G W ((EvW vl1 36 3 B) :: (Blk b #[.int .i64 (most), vl1] 76) :: Rs) w := hS2t.sel 2 [1, 0] (Nat.le_add_left _ _) rfl rfl
 obtain ⟨ps, hp9, hok9, hS5⟩ := hS4.evwFlat
 have hpl9 : ps.length = B.length := by rw [← hp9, List.length_map]
 have hS6 : Sep G W ((RowE (α := EvP) own 36 vl1 ps) :: (StarD 3 ps) :: (Blk b #[.int .i64 (most), vl1] 76) :: Rs) w := hS5
 have hr7 := hS6.row (i := 0) rfl
 have hr7s : ps.length * 96 ≤ 140737488355328 := hr7.2
 refine WP_region0 (by kernel_rfl) (fun _ => ?_)
 refine st (ov_assign (v := .int .i64 (0)) rfl ?_)
 refine st_nil ?_
 refine WP_block ?_
 have hS8 : Sep G W ((RowE (α := EvP) own 36 (.slice none 0 0) ([] : List EvP)) :: (RowE (α := EvP) own 36 vl1 ps) :: (StarD 3 ps) :: (Blk b #[.int .i64 (most), vl1] 76) :: Rs) w := hS6.rowNil own 36
 refine WP_loop (fun mq σ wq => ∃ (k : Nat) (vo : Value) (ρ : Env), mq = B.length - k ∧ σ = setAll ρ [(0, .pointer (some ⟨b, 0, none⟩)), (1, .int .i64 ((i : Nat) : Int)), (5, .int .i64 ((k : Nat) : Int)), (4, vo)] ∧ (k ≤ B.length) ∧ Sep G W ((RowE (α := EvP) own 36 vo ((ps.take k).eraseIdx i)) :: (RowE (α := EvP) own 36 vl1 ps) :: (StarD 3 ps) :: (Blk b #[.int .i64 (most), vl1] 76) :: Rs) wq) ⟨0, (.slice none 0 0), _, rfl, setAll_self ⟨rfl, rfl, rfl, rfl, trivial⟩, Nat.zero_le _, hS8⟩ ?_
 rintro m10 σ11 w9 ⟨k, vo, ρl1, rfl, rfl, hkk, hS12⟩
 have hr13 := hS12.row (i := 0) rfl
 have hr13s : ((ps.take k).eraseIdx i).length * 96 ≤ 140737488355328 := hr13.2
 have hdl9 := drop_len (ps := ps) (i := i) (k := k)
 refine WP_seq ?_
 refine WP_seq ?_
 refine WP_region0 (by kernel_rfl) (fun _ => ?_)
 refine st (ov_move (v := .int .i64 ((k : Nat) : Int)) rfl ?_)
 refine st (ov_move (v := .pointer (some ⟨b, 0, none⟩)) rfl ?_)
 refine st (ov_nilCheck (b := b) (o := 0) rfl ?_)
 refine st (fd76_1 rfl ?_)
 refine st (ov_load1 (v := vl1) Try.isAgg22 rfl (blk_cellL (hS12.blk (i := 3) rfl) rfl) ?_)
 refine st (ov_len (n := ps.length) Try.underlying22 rfl hr7.1 ?_)
 refine st (ov_lss (k := .i64) (a := ((k : Nat) : Int)) (b := ((ps.length : Nat) : Int)) rfl rfl ?_)
 refine st_nil ?_
 cases hc14 : decide (((k : Nat) : Int) < ((ps.length : Nat) : Int))
 ·skip
  have hc14r := hc14
  have hc14 := of_decide_eq_false hc14
  refine WP_cond_f rfl ?_
  refine WP_exit ?_
  refine blk_exit ?_
  have hS15 : Sep G W ((RowE (α := EvP) own 36 vo ((ps.take k).eraseIdx i)) :: (StarD 3 ps) :: (RowE (α := EvP) own 36 vl1 ps) :: (Blk b #[.int .i64 (most), vl1] 76) :: Rs) w9 := hS12.sel 4 [0, 2, 1, 3] (Nat.le_add_left _ _) rfl rfl
  have hk9 : (ps.take k).eraseIdx i = ps.eraseIdx i := by rw [List.take_of_length_le (by omega)]
  rw [hk9] at hS15
  have hS16 := (Sep.starOut (i := i) (hS15.sel 2 [1, 0] (Nat.le_add_left _ _) rfl rfl) (by omega)).sel 3 [2, 1] (Nat.le_add_left _ _) rfl rfl
  have hS17 : Sep G W ((EvW vo 36 3 (B.eraseIdx i)) :: (RowE (α := EvP) own 36 vl1 ps) :: (Blk b #[.int .i64 (most), vl1] 76) :: Rs) w9 := Sep.evwOf hS16 (map_erase hp9) (fun s hs => hok9 s (mem_erase hs))
  refine WP_region0 (by kernel_rfl) (fun _ => ?_)
  refine st (ov_move (v := .pointer (some ⟨b, 0, none⟩)) rfl ?_)
  refine st (ov_move (v := vo) rfl ?_)
  refine st (ov_nilCheck (b := b) (o := 0) rfl ?_)
  refine st (fd76_1 rfl ?_)
  refine stn (ov_store1 (v := vo) (c := [.int .i64 (most), vl1]) (c' := [.int .i64 (most), vo]) Try.sizeOf22 rfl rfl (hS17.blk (i := 2) rfl) (hS17.evwSl (i := 0) rfl).1.one rfl rfl ?_)
  intro w18 hp19
  have hS20 : Sep G W ((EvW vo 36 3 (B.eraseIdx i)) :: (RowE (α := EvP) own 36 vl1 ps) :: (Blk b #[.int .i64 (most), vo] 76) :: Rs) w18 := hS17.put (i := 2) rfl hp19
  refine st_nil ?_
  refine fin0 Try.results59 ?_
  have hS21 : Sep G W ((Blk b #[.int .i64 (most), vo] 76) :: (EvW vo 36 3 (B.eraseIdx i)) :: (RowE (α := EvP) own 36 vl1 ps) :: Rs) w18 := hS20.sel 3 [2, 0, 1] (Nat.le_add_left _ _) rfl rfl
  have hS22 : Sep G W ((RBufO b most (B.eraseIdx i)) :: (RowE (α := EvP) own 36 vl1 ps) :: Rs) w18 := RBufO.close (most := most) (B := (B.eraseIdx i)) hS21
  have hS23 : Sep G W ((RBufO b most (B.eraseIdx i)) :: Rs) w18 := hS22.sel 2 [0] (Nat.le_add_left _ _) rfl rfl
  refine ⟨rfl, hS23⟩
 ·skip
  have hc14r := hc14
  have hc14 := of_decide_eq_true hc14
  refine WP_cond_t rfl ?_
  refine WP_skip ?_
  refine WP_seq ?_
  refine WP_block ?_
  refine WP_seq ?_
  refine WP_region0 (by kernel_rfl) (fun _ => ?_)
  refine st (ov_move (v := .int .i64 ((k : Nat) : Int)) rfl ?_)
  refine st (ov_move (v := .int .i64 ((i : Nat) : Int)) rfl ?_)
  refine st (ov_neq (k := .i64) (a := ((k : Nat) : Int)) (b := ((i : Nat) : Int)) rfl rfl ?_)
  refine st_nil ?_
  cases hc24 : !decide (((k : Nat) : Int) = ((i : Nat) : Int))
  ·skip
   have hc24r := hc24
   have hc24 := ndec_false hc24
   refine WP_cond_f rfl ?_
   refine WP_skip ?_
   refine WP_region0 (by kernel_rfl) (fun _ => ?_)
   refine st (ov_move (v := .int .i64 ((k : Nat) : Int)) rfl ?_)
   have hr25 : InR ((k + 1 : Nat) : Int) := by first | omega | (simp only [lens]; omega)
   refine st (ov_add (r := ((k + 1 : Nat) : Int)) (k := .i64) (a := ((k : Nat) : Int)) (b := 1) rfl rfl (by rw [show (((k : Nat) : Int) + 1 : Int) = ((k + 1 : Nat) : Int) by first | omega | (simp only [lens]; omega)]; exact wrap_in hr25) ?_)
   refine st (ov_assign (v := .int .i64 ((k + 1 : Nat) : Int)) rfl ?_)
   refine st_nil ?_
   have hL26 : ((ps.take (k + 1)).eraseIdx i) = ((ps.take k).eraseIdx i) := (by rw [show k = i by omega]; exact drop_same (by omega))
   rw [← hL26] at hS12
   exact ⟨_, by omega, k + 1, vo, _, rfl, setAll_self ⟨rfl, rfl, rfl, rfl, trivial⟩, by omega, hS12⟩
  ·skip
   have hc24r := hc24
   have hc24 := ndec_true hc24
   refine WP_cond_t rfl ?_
   refine WP_region0 (by kernel_rfl) (fun _ => ?_)
   refine st (ov_move (v := vo) rfl ?_)
   refine st (ov_move (v := .pointer (some ⟨b, 0, none⟩)) rfl ?_)
   refine st (ov_nilCheck (b := b) (o := 0) rfl ?_)
   refine st (fd76_1 rfl ?_)
   refine st (ov_load1 (v := vl1) Try.isAgg22 rfl (blk_cellL (hS12.blk (i := 3) rfl) rfl) ?_)
   refine st (ov_move (v := .int .i64 ((k : Nat) : Int)) rfl ?_)
   have hi27 : k < ps.length := (by first | omega | (simp only [lens]; omega))
   refine st (ov_indexAddrN (k := 10) (i := k) Try.underlying22 Try.sizeOf36 rfl hr7.1 rfl hi27 ?_)
   have hi29 : k < ps.length := (by first | omega | (simp only [lens]; omega))
   obtain ⟨_, _, hce28, rfl⟩ := hS12.rowAt (i := 1) (j := k) rfl hi29
   rw [← getD_at default hi29] at hce28
   have hce28 : CellsAt _ _ _ ((ps.getD k default).1.cells (ps.getD k default).2.1) := hce28
   refine st (ov_loadk (k := 10) Try.isAgg36 Try.sizeOf36 rfl rfl hce28 ?_)
   refine st (ov_buildSlice (k := 10) (parts' := [(0, .agg ((ps.getD k default).1.cells (ps.getD k default).2.1).toArray)]) (c := ((ps.getD k default).1.cells (ps.getD k default).2.1).toArray) Try.underlying22 Try.sizeOf36 Try.zeroValue36 (by decide) rfl (by kernel_rfl) ?_)
   intro w32 b31 hn30
   have hS33 : Sep G W ((Blk b31 ((ps.getD k default).1.cells (ps.getD k default).2.1).toArray 36) :: (RowE (α := EvP) own 36 vo ((ps.take k).eraseIdx i)) :: (RowE (α := EvP) own 36 vl1 ps) :: (StarD 3 ps) :: (Blk b #[.int .i64 (most), vl1] 76) :: Rs) w32 := hS12.new hn30
   have hbk37 := hS33.blk (i := 0) rfl
   have hS38 : Sep G W ((RowE (α := EvP) own 36 vo ((ps.take k).eraseIdx i)) :: (RowE (α := EvP) own 36 vl1 ps) :: (StarD 3 ps) :: (Blk b #[.int .i64 (most), vl1] 76) :: Rs) w32 := hS33.sel 5 [1, 2, 3, 4] (Nat.le_add_left _ _) rfl rfl
   have hS39 : Sep G W ((RowE (α := EvP) own 36 vo ((ps.take k).eraseIdx i)) :: Emp :: (RowE (α := EvP) own 36 vl1 ps) :: (StarD 3 ps) :: (Blk b #[.int .i64 (most), vl1] 76) :: Rs) w32 := hS38.emp1
   refine st (ov_append1S (src := own) (bytes := 96) (x1 := (ps.getD k default)) hS39 el22 rfl rfl hbk37 (fun _ _ _ => (show _ from rfl)) (by first | omega | (simp only [List.length_append, List.length_cons, List.length_nil, List.length_take, List.length_drop]; omega)) rfl ?_)
   intro v35 w34 hS36
   have hr40 := hS36.row (i := 0) rfl
   have hr40s : (((ps.take k).eraseIdx i) ++ [(ps.getD k default)]).length * 96 ≤ 140737488355328 := hr40.2
   refine st (ov_assign (v := v35) rfl ?_)
   refine st_nil ?_
   refine WP_region0 (by kernel_rfl) (fun _ => ?_)
   refine st (ov_move (v := .int .i64 ((k : Nat) : Int)) rfl ?_)
   have hr41 : InR ((k + 1 : Nat) : Int) := by first | omega | (simp only [lens]; omega)
   refine st (ov_add (r := ((k + 1 : Nat) : Int)) (k := .i64) (a := ((k : Nat) : Int)) (b := 1) rfl rfl (by rw [show (((k : Nat) : Int) + 1 : Int) = ((k + 1 : Nat) : Int) by first | omega | (simp only [lens]; omega)]; exact wrap_in hr41) ?_)
   refine st (ov_assign (v := .int .i64 ((k + 1 : Nat) : Int)) rfl ?_)
   refine st_nil ?_
   have hL42 : ((ps.take (k + 1)).eraseIdx i) = ((ps.take k).eraseIdx i) ++ [(ps.getD k default)] := (drop_ne (by omega) (by omega))
   rw [← hL42] at hS36
   exact ⟨_, by omega, k + 1, v35, _, rfl, setAll_self ⟨rfl, rfl, rfl, rfl, trivial⟩, by omega, hS36⟩

end Go.Proofs.Ytmiihhbeclhaoaa
end

section
/- Steps of the proofs of this seat: part D12. -/
set_option linter.unusedSimpArgs false
set_option linter.unusedVariables false
set_option maxRecDepth 8000
set_option maxHeartbeats 4000000
namespace Go.Proofs.Ytmiihhbeclhaoaa
open Go.Proofs Go.RowKit

/-- The document's set, where its list lies said. -/
def RefP (b : Nat) (vl : Value) (n : Nat) (L : List Ev) : HP := Star [Blk b #[.int .i64 ((n : Nat) : Int), vl] 78, RowE (α := Ev) own 36 vl L]
theorem RefP.sh {G : Nat → Prop} {W : World} {b n : Nat} {vl : Value} {L : List Ev} (h : (RefP b vl n L).p W G) : (RefS b n L).p W G := ⟨vl, h⟩
theorem D_rAddQ0 {G : Nat → Prop} {W w : World} {Rs : List HP} {b n : Nat} {vl : Value} {L : List Ev} {e : Ev} {de0 : Value} (hde0 : RdS W G de0 e.deps) (oe : e.Ok) (hS0 : Sep G W ((RefP b vl n L) :: Rs) w) (hG : Good n L) (hn : n ≤ 1000) (hL : L.length ≤ 1000000) : Ret Try.prog 22 [.pointer (some ⟨b, 0, none⟩), .agg (e.cells de0).toArray] w (fun r w' => ∃ (L1 : List Ev), r = (.int .i64 ((addE n L e)) : Value) ∧ (L1 = addL n L e) ∧ Sep G W ((RowE (α := Ev) own 36 vl L) :: Rs) w') := by
 have hde0s : e.deps.length * 8 ≤ 140737488355328 := hde0.small
 refine Calls_of_WP (args := [.pointer (some ⟨b, 0, none⟩), .agg (e.cells de0).toArray]) Try.func22 rfl rfl ?_
 refine WP_seq ?_
 obtain ⟨G1, hA3, hB4, hS5, hk6⟩ := hS0.lend
 have hA7 := RefP.sh hA3
 obtain ⟨vl8, hb9, hl10⟩ := RefS.sh hA7
 have hsm11 : L.length * 96 ≤ 140737488355328 := hl10.small
 have hvl9 : (vecE n L).length = n := vecE_len
 refine WP_region0 (by kernel_rfl) (fun _ => ?_)
 refine st (ov_box (v := .agg (e.cells de0).toArray) rfl ?_)
 intro w14 b13 hn12
 have hS15 : Sep G1 w ((Blk b13 (e.cells de0).toArray 36) :: Rs) w14 := hS5.new hn12
 refine st (ov_assign (v := .int .i64 (0)) rfl ?_)
 refine st_nil ?_
 refine WP_seq ?_
 refine WP_draw4 (WF [fun vals wq => Sep G1 w ((Blk b13 (e.cells de0).toArray 36) :: Rs) wq, fun vals wq => (vals 5 = (.int .i64 ((checkE e ((n : Nat) : Int))) : Value)) ∧ Sep G1 w ((Blk b13 (e.cells de0).toArray 36) :: Rs) wq]) (AF [Vl 0 (.agg (e.cells de0).toArray), Vl 1 (.pointer (some ⟨b, 0, none⟩)), Vl 2 (.pointer (some ⟨b, 0, none⟩)), Vl 3 (.pointer (some ⟨b, 0, none⟩)), Vl 4 (.int .i64 ((n : Nat) : Int)), fun _ => True, Vl 6 (.int .i64 ((checkE e ((n : Nat) : Int))))]) [[], [], [1], [1, 2], [1, 2, 3], [0, 1, 2, 3, 4], [0, 1, 2, 3, 4, 5]] [5] [(0, 0), (0, 0), (0, 0), (0, 0), (0, 0), (0, 0), (1, 1)] (by kernel_rfl) (by kernel_rfl) (by kernel_rfl) rfl (by kernel_rfl) (by kernel_rfl) (fun _ h1 h2 h3 h4 _ => hS15.same h1 h2 h3 h4) ?_ (AF_loc ⟨dA, dA, dA, dA, dA, dT, dA, trivial⟩) ⟨?_, ?_, ?_, ?_, ?_, ?_, ?_, trivial⟩ ?_
 ·intro k vals vals' w hv h
  have e : ∀ j ∈ ([5] : List Nat), vals' j = vals j := hv
  match k, h with
  | 0, h => exact h
  | 1, h => exact (by simpa only [WF, List.getElem?_cons_zero, List.getElem?_cons_succ, e 5 (by decide)] using h)
  | _ + 2, _ => trivial
 ·intro k70 vals w71 h74 h75 hW73 hA72
  obtain rfl : k70 = 0 := Nat.le_antisymm h75 h74
  have hS76 : Sep G1 w ((Blk b13 (e.cells de0).toArray 36) :: Rs) w71 := hW73
  refine obl rfl ?_
  exact ov_loadk (k := 10) Try.isAgg36 Try.sizeOf36 rfl rfl (CellsAt.all (hS76.blk (i := 0) rfl)) (fun vals' hv _ => ⟨rfl, hv⟩)
 ·intro k77 vals w78 h81 h82 hW80 hA79
  refine obl rfl ?_
  exact ov_move (v := .pointer (some ⟨b, 0, none⟩)) rfl (fun vals' hv _ => ⟨rfl, hv⟩)
 ·intro k83 vals w84 h87 h88 hW86 hA85
  have e89 := hA85 1 (by decide)
  refine obl rfl ?_
  exact ov_nilCheck (b := b) (o := 0) e89 (fun vals' hv _ => ⟨rfl, hv⟩)
 ·intro k90 vals w91 h94 h95 hW93 hA92
  have e96 := hA92 2 (by decide)
  refine obl rfl ?_
  exact fd78_0 e96 (fun vals' hv _ => ⟨rfl, hv⟩)
 ·intro k97 vals w98 h101 h102 hW100 hA99
  obtain rfl : k97 = 0 := Nat.le_antisymm h102 h101
  have hS103 : Sep G1 w ((Blk b13 (e.cells de0).toArray 36) :: Rs) w98 := hW100
  have e104 := hA99 3 (by decide)
  refine obl rfl ?_
  exact ov_load1 (v := .int .i64 ((n : Nat) : Int)) Try.isAgg3 e104 (blk_cellL (hS103.gblk hb9) rfl) (fun vals' hv _ => ⟨rfl, hv⟩)
 ·intro k51 vals w52 h55 h56 hW54 hA53
  obtain rfl : k51 = 0 := Nat.le_antisymm h56 h55
  have hS57 : Sep G1 w ((Blk b13 (e.cells de0).toArray 36) :: Rs) w52 := hW54
  have e58 := hA53 0 (by decide)
  have e59 := hA53 4 (by decide)
  refine obl rfl ?_
  refine (ov_call (f := 52) (vals := [.agg (e.cells de0).toArray, .int .i64 ((n : Nat) : Int)]) (cap := []) (show _ = (.func (.func 52) #[] #[] : Value) from rfl) (mapL ⟨e58, e59, trivial⟩) Try.call52 (D_rCheck (e := e) (n := n) (RdS.base hde0 hB4) oe (by first | omega | (refine ⟨?_, ?_⟩ <;> omega)) hS57) ?_)
  rintro _ w60 ⟨rfl, hS61⟩
  intro vals' hv hv'
  refine ⟨?_, trivial⟩
  show (vals' 5 = (.int .i64 ((checkE e ((n : Nat) : Int))) : Value)) ∧ Sep G1 w ((Blk b13 (e.cells de0).toArray 36) :: Rs) w60
  exact ⟨hv, hS61⟩
 ·intro k105 vals w106 h109 h110 hW108 hA107
  obtain rfl : k105 = 1 := Nat.le_antisymm h110 h109
  obtain ⟨he62, hS111⟩ := hW108
  refine obl rfl ?_
  exact ov_assign (v := .int .i64 ((checkE e ((n : Nat) : Int)))) he62 (fun vals' hv _ => ⟨rfl, hv⟩)
 intro vals w112 hW113 hA114
 obtain ⟨he62, hS115⟩ := hW113
 have e116 := hA114 6 (by decide)
 refine st_env (kv := [(0, .pointer (some ⟨b, 0, none⟩)), (1, .agg (e.cells de0).toArray), (3, .pointer (some ⟨b13, 0, none⟩)), (4, .int .i64 (0)), (5, .int .i64 ((checkE e ((n : Nat) : Int))))]) ⟨rfl, rfl, rfl, rfl, (by exact e116), trivial⟩ (fun ρw112 => ?_)
 refine st_nil ?_
 refine WP_seq ?_
 refine WP_seq ?_
 refine WP_region0 (by kernel_rfl) (fun _ => ?_)
 refine st (ov_move (v := .int .i64 ((checkE e ((n : Nat) : Int)))) rfl ?_)
 refine st (ov_neq (k := .i64) (a := (checkE e ((n : Nat) : Int))) (b := 0) rfl rfl ?_)
 refine st_nil ?_
 cases hc117 : !decide ((checkE e ((n : Nat) : Int)) = 0)
 ·skip
  have hc117r := hc117
  have hc117 := ndec_false hc117
  obtain ⟨⟨ho9, ho9'⟩, ⟨hs9, hl9⟩, hd9, hq9⟩ := check_ok hc117
  have hv9 : (vecE n L).getD e.origin.toNat 0 = ((cntE L e.origin.toNat : Nat) : Int) := vecE_at (by omega)
  have hcl9 := cntE_le (L := L) (o := e.origin.toNat)
  refine WP_cond_f rfl ?_
  refine WP_skip ?_
  refine WP_seq ?_
  refine WP_region0 (by kernel_rfl) (fun _ => ?_)
  refine st (ov_move (v := .pointer (some ⟨b, 0, none⟩)) rfl ?_)
  refine st (fd36_0 rfl ?_)
  refine st (ov_loadk (k := 2) (cs := [.int .i64 (e.origin), .int .i64 (e.seq)]) Try.isAgg33 Try.sizeOf33 rfl rfl (CellsAt.sub (CellsAt.all (hS115.blk (i := 0) rfl)) 0 (cs2 := [.int .i64 (e.origin), .int .i64 (e.seq)]) rfl) ?_)
  refine st (ov_call (f := 53) (vals := [.pointer (some ⟨b, 0, none⟩), .agg #[.int .i64 (e.origin), .int .i64 (e.seq)]]) (cap := []) (show _ = (.func (.func 53) #[] #[] : Value) from rfl) rfl Try.call53 (D_rGet  hA7 oe.origin oe.seq hS115) ?_)
  rintro _ w120 ⟨v118, rfl, hgo119, hS121⟩
  have hr122 := hS121.row (i := 0) rfl
  have hr122s : (((getE L (e.origin, e.seq)).getD default).deps).length * 8 ≤ 140737488355328 := hr122.2
  refine st (ov_move (v := .tuple #[.agg (((getE L (e.origin, e.seq)).getD default).cells v118).toArray, .bool (getE L (e.origin, e.seq)).isSome]) rfl ?_)
  refine st (ov_extract (vs := [.agg (((getE L (e.origin, e.seq)).getD default).cells v118).toArray, .bool ((getE L (e.origin, e.seq)).isSome)]) (i := 0) (v := .agg (((getE L (e.origin, e.seq)).getD default).cells v118).toArray) rfl rfl ?_)
  refine st (ov_extract (vs := [.agg (((getE L (e.origin, e.seq)).getD default).cells v118).toArray, .bool ((getE L (e.origin, e.seq)).isSome)]) (i := 1) (v := .bool ((getE L (e.origin, e.seq)).isSome)) rfl rfl ?_)
  refine st (ov_alloc Try.zeroValue36 ?_)
  intro w125 b124 hn123
  have hS126 : Sep G1 w ((Blk b124 #[.int .i64 (0), .int .i64 (0), .int .i64 (0), (.slice none 0 0), .int .i64 (0), .int .i64 (0), .int .i64 (0), .int .i64 (0), .int .i64 (0), .int .i64 (0)] 36) :: (RowE (α := Int) own 3 v118 (((getE L (e.origin, e.seq)).getD default).deps)) :: (Blk b13 (e.cells de0).toArray 36) :: Rs) w125 := hS121.new hn123
  refine stn (ov_store (v := .agg (((getE L (e.origin, e.seq)).getD default).cells v118).toArray) (c' := (((getE L (e.origin, e.seq)).getD default).cells v118).toArray) Try.sizeOf36 rfl rfl (hS126.blk (i := 0) rfl) (all1 ⟨rfl, rfl, rfl, hr122.1.one, rfl, rfl, rfl, rfl, rfl, rfl, trivial⟩) (Nat.le_of_ble_eq_true rfl) rfl ?_)
  intro w127 hp128
  have hS129 : Sep G1 w ((Blk b124 (((getE L (e.origin, e.seq)).getD default).cells v118).toArray 36) :: (RowE (α := Int) own 3 v118 (((getE L (e.origin, e.seq)).getD default).deps)) :: (Blk b13 (e.cells de0).toArray 36) :: Rs) w127 := hS126.put (i := 0) rfl hp128
  refine st (ov_assign (v := .bool ((getE L (e.origin, e.seq)).isSome)) rfl ?_)
  refine st_nil ?_
  refine WP_seq ?_
  refine WP_seq ?_
  refine WP_region0 (by kernel_rfl) (fun _ => ?_)
  refine st (ov_move (v := .bool ((getE L (e.origin, e.seq)).isSome)) rfl ?_)
  refine st_nil ?_
  cases hc130 : (getE L (e.origin, e.seq)).isSome
  ·skip
   have hc130r := hc130
   refine WP_cond_f rfl ?_
   refine WP_skip ?_
   refine WP_seq ?_
   refine WP_seq ?_
   refine WP_draw4 (WF [fun vals wq => Sep G1 w ((Blk b124 (((getE L (e.origin, e.seq)).getD default).cells v118).toArray 36) :: (RowE (α := Int) own 3 v118 (((getE L (e.origin, e.seq)).getD default).deps)) :: (Blk b13 (e.cells de0).toArray 36) :: Rs) wq, fun vals wq => ∃ (v166 : Value), (vals 4 = (v166 : Value)) ∧ Sep G1 w ((RowE (α := Int) own 3 v166 (vecE n L)) :: (Blk b124 (((getE L (e.origin, e.seq)).getD default).cells v118).toArray 36) :: (RowE (α := Int) own 3 v118 (((getE L (e.origin, e.seq)).getD default).deps)) :: (Blk b13 (e.cells de0).toArray 36) :: Rs) wq]) (AF [Vl 0 (.pointer (some ⟨b13, 0, none⟩)), Vl 1 (.pointer (some ⟨b13, 1, none⟩)), Vl 2 (.int .i64 (e.seq)), Vl 3 (.pointer (some ⟨b, 0, none⟩)), fun _ => True, Vl 5 (.pointer (some ⟨b13, 0, none⟩)), Vl 6 (.pointer (some ⟨b13, 0, none⟩)), Vl 7 (.int .i64 (e.origin)), fun vals => ∀ (v166 : Value), vals 4 = (v166 : Value) → vals 8 = (.pointer (some ⟨sb v166, so v166 + e.origin.toNat * 1, none⟩) : Value), Vl 9 (.int .i64 (((vecE n L).getD e.origin.toNat 0))), Vl 10 (.int .i64 (((vecE n L).getD e.origin.toNat 0) + 1)), Vl 11 (.bool (!decide (e.seq = (((vecE n L).getD e.origin.toNat 0) + 1))))]) [[], [0], [0, 1], [], [3], [], [5], [5, 6], [3, 4, 5, 6, 7], [3, 4, 5, 6, 7, 8], [3, 4, 5, 6, 7, 8, 9], [0, 1, 2, 3, 4, 5, 6, 7, 8, 9, 10]] [4] [(0, 1), (0, 1), (0, 1), (0, 0), (0, 0), (0, 1), (0, 1), (0, 1), (1, 1), (1, 1), (1, 1), (1, 1)] (by kernel_rfl) (by kernel_rfl) (by kernel_rfl) rfl (by kernel_rfl) (by kernel_rfl) (fun _ h1 h2 h3 h4 _ => hS129.same h1 h2 h3 h4) ?_ (AF_loc ⟨dA, dA, dA, dA, dT, dA, dA, dA, fun vals vals' hv h => fun v166 hq0 => (hv 8 (.inl rfl)).trans (h v166 ((hv 4 (.inr (by decide))).symm.trans hq0)), dA, dA, dA, trivial⟩) ⟨?_, ?_, ?_, ?_, ?_, ?_, ?_, ?_, ?_, ?_, ?_, ?_, trivial⟩ ?_
   ·intro k vals vals' w hv h
    have e : ∀ j ∈ ([4] : List Nat), vals' j = vals j := hv
    match k, h with
    | 0, h => exact h
    | 1, h => exact (by simpa only [WF, List.getElem?_cons_zero, List.getElem?_cons_succ, e 4 (by decide)] using h)
    | _ + 2, _ => trivial
   ·intro k230 vals w231 h234 h235 hW233 hA232
    refine obl rfl ?_
    exact fd36_0 rfl (fun vals' hv _ => ⟨rfl, hv⟩)
   ·intro k236 vals w237 h240 h241 hW239 hA238
    have e242 := hA238 0 (by decide)
    refine obl rfl ?_
    exact fd33_1 e242 (fun vals' hv _ => ⟨rfl, hv⟩)
   ·intro k243 vals w244 h247 h248 hW246 hA245
    have hkk : k243 = 0 ∨ k243 = 1 := by have h1 : 0 ≤ k243 := h247; have h2 : k243 ≤ 1 := h248; omega
    rcases hkk with rfl | rfl
    ·skip
     have hS249 : Sep G1 w ((Blk b124 (((getE L (e.origin, e.seq)).getD default).cells v118).toArray 36) :: (RowE (α := Int) own 3 v118 (((getE L (e.origin, e.seq)).getD default).deps)) :: (Blk b13 (e.cells de0).toArray 36) :: Rs) w244 := hW246
     have e250 := hA245 1 (by decide)
     refine obl rfl ?_
     exact ov_load1 (v := .int .i64 (e.seq)) Try.isAgg3 e250 (blk_cellL (hS249.blk (i := 2) rfl) rfl) (fun vals' hv _ => ⟨rfl, hv⟩)
    ·skip
     obtain ⟨v166, he170, hS251⟩ := hW246
     have e252 := hA245 1 (by decide)
     refine obl rfl ?_
     exact ov_load1 (v := .int .i64 (e.seq)) Try.isAgg3 e252 (blk_cellL (hS251.blk (i := 3) rfl) rfl) (fun vals' hv _ => ⟨rfl, hv⟩)
   ·intro k253 vals w254 h257 h258 hW256 hA255
    refine obl rfl ?_
    exact ov_move (v := .pointer (some ⟨b, 0, none⟩)) rfl (fun vals' hv _ => ⟨rfl, hv⟩)
   ·intro k158 vals w159 h162 h163 hW161 hA160
    obtain rfl : k158 = 0 := Nat.le_antisymm h163 h162
    have hS164 : Sep G1 w ((Blk b124 (((getE L (e.origin, e.seq)).getD default).cells v118).toArray 36) :: (RowE (α := Int) own 3 v118 (((getE L (e.origin, e.seq)).getD default).deps)) :: (Blk b13 (e.cells de0).toArray 36) :: Rs) w159 := hW161
    have e165 := hA160 3 (by decide)
    refine obl rfl ?_
    refine (ov_call (f := 54) (vals := [.pointer (some ⟨b, 0, none⟩)]) (cap := []) (show _ = (.func (.func 54) #[] #[] : Value) from rfl) (mapL ⟨e165, trivial⟩) Try.call54 (D_rVec  hA7 hS164 (hG) (by first | omega | (simp only [lens]; omega))) ?_)
    rintro v166 w167 ⟨_, rfl, hS168⟩
    have hr169 := hS168.row (i := 0) rfl
    have hr169s : (vecE n L).length * 8 ≤ 140737488355328 := hr169.2
    intro vals' hv hv'
    refine ⟨?_, trivial⟩
    show ∃ (v166 : Value), (vals' 4 = (v166 : Value)) ∧ Sep G1 w ((RowE (α := Int) own 3 v166 (vecE n L)) :: (Blk b124 (((getE L (e.origin, e.seq)).getD default).cells v118).toArray 36) :: (RowE (α := Int) own 3 v118 (((getE L (e.origin, e.seq)).getD default).deps)) :: (Blk b13 (e.cells de0).toArray 36) :: Rs) w167
    exact ⟨v166, hv, hS168⟩
   ·intro k259 vals w260 h263 h264 hW262 hA261
    refine obl rfl ?_
    exact fd36_0 rfl (fun vals' hv _ => ⟨rfl, hv⟩)
   ·intro k265 vals w266 h269 h270 hW268 hA267
    have e271 := hA267 5 (by decide)
    refine obl rfl ?_
    exact fd33_0 e271 (fun vals' hv _ => ⟨rfl, hv⟩)
   ·intro k272 vals w273 h276 h277 hW275 hA274
    have hkk : k272 = 0 ∨ k272 = 1 := by have h1 : 0 ≤ k272 := h276; have h2 : k272 ≤ 1 := h277; omega
    rcases hkk with rfl | rfl
    ·skip
     have hS278 : Sep G1 w ((Blk b124 (((getE L (e.origin, e.seq)).getD default).cells v118).toArray 36) :: (RowE (α := Int) own 3 v118 (((getE L (e.origin, e.seq)).getD default).deps)) :: (Blk b13 (e.cells de0).toArray 36) :: Rs) w273 := hW275
     have e279 := hA274 6 (by decide)
     refine obl rfl ?_
     exact ov_load1 (v := .int .i64 (e.origin)) Try.isAgg3 e279 (blk_cellL (hS278.blk (i := 2) rfl) rfl) (fun vals' hv _ => ⟨rfl, hv⟩)
    ·skip
     obtain ⟨v166, he170, hS280⟩ := hW275
     have e281 := hA274 6 (by decide)
     refine obl rfl ?_
     exact ov_load1 (v := .int .i64 (e.origin)) Try.isAgg3 e281 (blk_cellL (hS280.blk (i := 3) rfl) rfl) (fun vals' hv _ => ⟨rfl, hv⟩)
   ·intro k282 vals w283 h286 h287 hW285 hA284
    obtain rfl : k282 = 1 := Nat.le_antisymm h287 h286
    obtain ⟨v166, he170, hS288⟩ := hW285
    have e289 := hA284 7 (by decide)
    refine obl rfl ?_
    have hi290 : e.origin.toNat < (vecE n L).length := (by first | omega | (simp only [lens]; omega))
    have hr291 := hS288.row (i := 0) rfl
    have hr291s : (vecE n L).length * 8 ≤ 140737488355328 := hr291.2
    refine ov_indexAddr (k := 1) (i := e.origin) Try.underlying34 Try.sizeOf3 he170 hr291.1 e289 ⟨by omega, by omega⟩ (fun vals' hv hv' => ⟨rfl, ?_⟩)
    intro v166q hq0
    rw [hv' 4 (by decide)] at hq0; cases he170.symm.trans hq0
    exact hv
   ·intro k292 vals w293 h296 h297 hW295 hA294
    obtain rfl : k292 = 1 := Nat.le_antisymm h297 h296
    obtain ⟨v166, he170, hS298⟩ := hW295
    have e299 : vals 8 = (.pointer (some ⟨sb v166, so v166 + e.origin.toNat * 1, none⟩) : Value) := hA294 8 (by decide) v166 he170
    refine obl rfl ?_
    have hi301 : e.origin.toNat < (vecE n L).length := (by first | omega | (simp only [lens]; omega))
    obtain ⟨_, _, hce300, rfl, hxe300⟩ := hS298.rowAt (i := 0) (j := e.origin.toNat) rfl hi301
    rw [← getD_at 0 hi301] at hce300 hxe300
    exact ov_load1 (v := .int .i64 (((vecE n L).getD e.origin.toNat 0))) Try.isAgg3 e299 (hce300.get (j := 0) rfl) (fun vals' hv _ => ⟨rfl, hv⟩)
   ·intro k302 vals w303 h306 h307 hW305 hA304
    obtain rfl : k302 = 1 := Nat.le_antisymm h307 h306
    obtain ⟨v166, he170, hS308⟩ := hW305
    have e309 := hA304 9 (by decide)
    refine obl rfl ?_
    have hr310 : InR (((vecE n L).getD e.origin.toNat 0) + 1) := by omega
    exact ov_add (r := ((vecE n L).getD e.origin.toNat 0) + 1) (k := .i64) (a := ((vecE n L).getD e.origin.toNat 0)) (b := 1) e309 rfl (wrap_in hr310) (fun vals' hv _ => ⟨rfl, hv⟩)
   ·intro k311 vals w312 h315 h316 hW314 hA313
    obtain rfl : k311 = 1 := Nat.le_antisymm h316 h315
    obtain ⟨v166, he170, hS317⟩ := hW314
    have e318 := hA313 2 (by decide)
    have e319 := hA313 10 (by decide)
    refine obl rfl ?_
    exact ov_neq (k := .i64) (a := e.seq) (b := ((vecE n L).getD e.origin.toNat 0) + 1) e318 e319 (fun vals' hv _ => ⟨rfl, hv⟩)
   intro vals w320 hW321 hA322
   obtain ⟨v166, he170, hS323⟩ := hW321
   have e324 := hA322 11 (by decide)
   refine st_env (kv := [(0, .pointer (some ⟨b, 0, none⟩)), (1, .agg (e.cells de0).toArray), (3, .pointer (some ⟨b13, 0, none⟩)), (4, .int .i64 (0)), (5, .int .i64 ((checkE e ((n : Nat) : Int)))), (18, .int .i64 ((checkE e ((n : Nat) : Int)))), (19, .bool false), (22, .pointer (some ⟨b, 0, none⟩)), (23, .pointer (some ⟨b13, 0, none⟩)), (24, .agg #[.int .i64 (e.origin), .int .i64 (e.seq)]), (6, .pointer (some ⟨b124, 0, none⟩)), (28, .bool false), (40, .bool (!decide (e.seq = (((vecE n L).getD e.origin.toNat 0) + 1))))]) ⟨rfl, rfl, rfl, rfl, rfl, rfl, rfl, rfl, rfl, rfl, rfl, rfl, (by exact e324), trivial⟩ (fun ρw320 => ?_)
   refine st_nil ?_
   cases hc325 : !decide (e.seq = (((vecE n L).getD e.origin.toNat 0) + 1))
   ·skip
    have hc325r := hc325
    have hc325 := ndec_false hc325
    refine WP_cond_f rfl ?_
    refine WP_skip ?_
    refine WP_seq ?_
    refine WP_seq ?_
    refine WP_region0 (by kernel_rfl) (fun _ => ?_)
    refine st (ov_assign (v := .int .i64 (0)) rfl ?_)
    refine st_nil ?_
    refine WP_block ?_
    refine WP_loop (fun mq σ wq => ∃ (k : Nat) (ρ : Env), mq = n - k ∧ σ = setAll ρ [(0, .pointer (some ⟨b, 0, none⟩)), (3, .pointer (some ⟨b13, 0, none⟩)), (8, .int .i64 ((k : Nat) : Int))] ∧ (k ≤ n) ∧ (∀ i, i < k → knewE L e i = true) ∧ Sep G1 w ((RowE (α := Int) own 3 v166 (vecE n L)) :: (Blk b124 (((getE L (e.origin, e.seq)).getD default).cells v118).toArray 36) :: (RowE (α := Int) own 3 v118 (((getE L (e.origin, e.seq)).getD default).deps)) :: (Blk b13 (e.cells de0).toArray 36) :: Rs) wq) ⟨0, _, rfl, setAll_self ⟨rfl, rfl, rfl, trivial⟩, Nat.zero_le _, (fun i h => absurd h (Nat.not_lt_zero i)), hS323⟩ ?_
    rintro m327 σ328 w326 ⟨k, ρl1, rfl, rfl, hkk, hm, hS329⟩
    refine WP_seq ?_
    refine WP_seq ?_
    refine WP_region0 (by kernel_rfl) (fun _ => ?_)
    refine st (ov_move (v := .int .i64 ((k : Nat) : Int)) rfl ?_)
    refine st (ov_move (v := .pointer (some ⟨b, 0, none⟩)) rfl ?_)
    refine st (ov_nilCheck (b := b) (o := 0) rfl ?_)
    refine st (fd78_0 rfl ?_)
    refine st (ov_load1 (v := .int .i64 ((n : Nat) : Int)) Try.isAgg3 rfl (blk_cellL (hS329.gblk hb9) rfl) ?_)
    refine st (ov_lss (k := .i64) (a := ((k : Nat) : Int)) (b := ((n : Nat) : Int)) rfl rfl ?_)
    refine st_nil ?_
    cases hc330 : decide (((k : Nat) : Int) < ((n : Nat) : Int))
    ·skip
     have hc330r := hc330
     have hc330 := of_decide_eq_false hc330
     refine WP_cond_f rfl ?_
     refine WP_exit ?_
     refine blk_exit ?_
     refine WP_seq ?_
     refine WP_region0 (by kernel_rfl) (fun _ => ?_)
     refine st (ov_assign (v := (.slice none 0 0)) rfl ?_)
     refine st_nil ?_
     refine WP_seq ?_
     refine WP_region0 (by kernel_rfl) (fun _ => ?_)
     refine st (ov_assign (v := .bool false) rfl ?_)
     refine st_nil ?_
     refine WP_seq ?_
     refine WP_seq ?_
     have hS331 : Sep G W ((RefP b vl n L) :: (RowE (α := Int) own 3 v166 (vecE n L)) :: (Blk b124 (((getE L (e.origin, e.seq)).getD default).cells v118).toArray 36) :: (RowE (α := Int) own 3 v118 (((getE L (e.origin, e.seq)).getD default).deps)) :: (Blk b13 (e.cells de0).toArray 36) :: Rs) w326 := hk6 _ _ hS329
     have hS332 : Sep G W ((Blk b #[.int .i64 ((n : Nat) : Int), vl] 78) :: (RowE (α := Ev) own 36 vl L) :: (RowE (α := Int) own 3 v166 (vecE n L)) :: (Blk b124 (((getE L (e.origin, e.seq)).getD default).cells v118).toArray 36) :: (RowE (α := Int) own 3 v118 (((getE L (e.origin, e.seq)).getD default).deps)) :: (Blk b13 (e.cells de0).toArray 36) :: Rs) w326 := Sep.openStar hS331
     have hr333 := hS332.row (i := 1) rfl
     have hr333s : L.length * 96 ≤ 140737488355328 := hr333.2
     have hS334 : Sep G W ((RowE (α := Ev) own 36 vl L) :: (Blk b #[.int .i64 ((n : Nat) : Int), vl] 78) :: (RowE (α := Int) own 3 v166 (vecE n L)) :: (Blk b124 (((getE L (e.origin, e.seq)).getD default).cells v118).toArray 36) :: (RowE (α := Int) own 3 v118 (((getE L (e.origin, e.seq)).getD default).deps)) :: (Blk b13 (e.cells de0).toArray 36) :: Rs) w326 := hS332.sel 6 [1, 0, 2, 3, 4, 5] (Nat.le_add_left _ _) rfl rfl
     obtain ⟨G335, hA337, hB338, hS339, hk340⟩ := hS334.lend
     have hrd341 := RowE.rd hA337
     have hrd341s : L.length * 96 ≤ 140737488355328 := hrd341.small
     refine WP_region0 (by kernel_rfl) (fun _ => ?_)
     refine st (ov_assign (v := .int .i64 (0)) rfl ?_)
     refine st_nil ?_
     refine WP_block ?_
     have hS342 : Sep G335 w326 ((RowE (α := Ev) (alt G335 w326) 36 (.slice none 0 0) ([] : List Ev)) :: (Blk b #[.int .i64 ((n : Nat) : Int), vl] 78) :: (RowE (α := Int) own 3 v166 (vecE n L)) :: (Blk b124 (((getE L (e.origin, e.seq)).getD default).cells v118).toArray 36) :: (RowE (α := Int) own 3 v118 (((getE L (e.origin, e.seq)).getD default).deps)) :: (Blk b13 (e.cells de0).toArray 36) :: Rs) w326 := hS339.rowNil (alt G335 w326) 36
     refine WP_loop (fun mq σ wq => ∃ (k : Nat) (vo : Value) (ρ : Env), mq = L.length - k ∧ σ = setAll ρ [(0, .pointer (some ⟨b, 0, none⟩)), (3, .pointer (some ⟨b13, 0, none⟩)), (10, .bool ((laidB e L k))), (11, .int .i64 ((k : Nat) : Int)), (9, vo)] ∧ (k ≤ L.length) ∧ Sep G335 w326 ((RowE (α := Ev) (alt G335 w326) 36 vo (listK e L k)) :: (Blk b #[.int .i64 ((n : Nat) : Int), vl] 78) :: (RowE (α := Int) own 3 v166 (vecE n L)) :: (Blk b124 (((getE L (e.origin, e.seq)).getD default).cells v118).toArray 36) :: (RowE (α := Int) own 3 v118 (((getE L (e.origin, e.seq)).getD default).deps)) :: (Blk b13 (e.cells de0).toArray 36) :: Rs) wq) ⟨0, (.slice none 0 0), _, rfl, setAll_self ⟨rfl, rfl, rfl, rfl, rfl, trivial⟩, Nat.zero_le _, hS342⟩ ?_
     rintro m344 σ345 w343 ⟨k, vo, ρl2, rfl, rfl, hkk, hS346⟩
     have hr347 := hS346.row (i := 0) rfl
     have hr347s : (listK e L k).length * 96 ≤ 140737488355328 := hr347.2
     have hlk9 := listK_len (e := e) (L := L) (k := k)
     refine WP_seq ?_
     refine WP_seq ?_
     refine WP_region0 (by kernel_rfl) (fun _ => ?_)
     refine st (ov_move (v := .int .i64 ((k : Nat) : Int)) rfl ?_)
     refine st (ov_move (v := .pointer (some ⟨b, 0, none⟩)) rfl ?_)
     refine st (ov_nilCheck (b := b) (o := 0) rfl ?_)
     refine st (fd78_1 rfl ?_)
     refine st (ov_load1 (v := vl) Try.isAgg22 rfl (blk_cellL (hS346.blk (i := 1) rfl) rfl) ?_)
     refine st (ov_len (n := L.length) Try.underlying22 rfl hrd341.sl ?_)
     refine st (ov_lss (k := .i64) (a := ((k : Nat) : Int)) (b := ((L.length : Nat) : Int)) rfl rfl ?_)
     refine st_nil ?_
     cases hc348 : decide (((k : Nat) : Int) < ((L.length : Nat) : Int))
     ·skip
      have hc348r := hc348
      have hc348 := of_decide_eq_false hc348
      refine WP_cond_f rfl ?_
      refine WP_exit ?_
      refine blk_exit ?_
      refine WP_seq ?_
      refine WP_seq ?_
      refine WP_region0 (by kernel_rfl) (fun _ => ?_)
      refine st (ov_move (v := .bool ((laidB e L k))) rfl ?_)
      refine st (ov_not (a := (laidB e L k)) rfl ?_)
      refine st_nil ?_
      cases hc349 : !(laidB e L k)
      ·skip
       have hc349r := hc349
       try simp only [bools] at hc349
       refine WP_cond_f rfl ?_
       refine WP_skip ?_
       refine WP_seq ?_
       refine WP_region0 (by kernel_rfl) (fun _ => ?_)
       refine st (ov_move (v := .pointer (some ⟨b, 0, none⟩)) rfl ?_)
       refine st (ov_move (v := vo) rfl ?_)
       refine st (ov_nilCheck (b := b) (o := 0) rfl ?_)
       refine st (fd78_1 rfl ?_)
       refine stn (ov_store1 (v := vo) (c := [.int .i64 ((n : Nat) : Int), vl]) (c' := [.int .i64 ((n : Nat) : Int), vo]) Try.sizeOf22 rfl rfl (hS346.blk (i := 1) rfl) hr347.1.one rfl rfl ?_)
       intro w350 hp351
       have hS352 : Sep G335 w326 ((RowE (α := Ev) (alt G335 w326) 36 vo (listK e L k)) :: (Blk b #[.int .i64 ((n : Nat) : Int), vo] 78) :: (RowE (α := Int) own 3 v166 (vecE n L)) :: (Blk b124 (((getE L (e.origin, e.seq)).getD default).cells v118).toArray 36) :: (RowE (α := Int) own 3 v118 (((getE L (e.origin, e.seq)).getD default).deps)) :: (Blk b13 (e.cells de0).toArray 36) :: Rs) w350 := hS346.put (i := 1) rfl hp351
       refine st_nil ?_
       refine WP_seq ?_
       refine WP_region0 (by kernel_rfl) (fun _ => ?_)
       refine st (ov_assign (v := .int .i64 (0)) rfl ?_)
       refine st_nil ?_
       refine WP_ret ?_
       refine fin1 Try.results22 (show _ = (.int .i64 (0) : Value) from rfl) ?_
       have hS353 : Sep G W ((RowE (α := Ev) own 36 vl L) :: (RowE (α := Ev) (alt G335 w326) 36 vo (listK e L k)) :: (Blk b #[.int .i64 ((n : Nat) : Int), vo] 78) :: (RowE (α := Int) own 3 v166 (vecE n L)) :: (Blk b124 (((getE L (e.origin, e.seq)).getD default).cells v118).toArray 36) :: (RowE (α := Int) own 3 v118 (((getE L (e.origin, e.seq)).getD default).deps)) :: (Blk b13 (e.cells de0).toArray 36) :: Rs) w350 := hk340 _ _ hS352
       have hS354 : Sep G W ((RowE (α := Ev) own 36 vl L) :: Rs) w350 := hS353.sel 7 [0] (Nat.le_add_left _ _) rfl rfl
       refine ⟨(insE e L), ?_, ?_, hS354⟩
       · rw [add_0 hc117 hc130 (by rw [hv9] at hc325; exact hc325) (fun i hi => hm i (by omega))]
       · rw [addL_yes (add_0 hc117 hc130 (by rw [hv9] at hc325; exact hc325) (fun i hi => hm i (by omega)))]
      ·skip
       have hc349r := hc349
       try simp only [bools] at hc349
       refine WP_cond_t rfl ?_
       refine WP_region0 (by kernel_rfl) (fun _ => ?_)
       refine st (ov_move (v := vo) rfl ?_)
       refine st (ov_loadk (k := 10) Try.isAgg36 Try.sizeOf36 rfl rfl (CellsAt.all (hS346.blk (i := 5) rfl)) ?_)
       refine st (ov_call (f := 23) (vals := [.agg (e.cells de0).toArray]) (cap := []) (show _ = (.func (.func 23) #[] #[] : Value) from rfl) rfl Try.call23 (D_copyEvent (e := e) (RdS.base hde0 hB338) oe hS346) ?_)
       rintro _ w356 ⟨v355, rfl, hS357⟩
       have hr358 := hS357.row (i := 0) rfl
       have hr358s : e.deps.length * 8 ≤ 140737488355328 := hr358.2
       refine st (ov_buildSlice (k := 10) (parts' := [(0, .agg (e.cells v355).toArray)]) (c := (e.cells v355).toArray) Try.underlying22 Try.sizeOf36 Try.zeroValue36 (by decide) rfl (by kernel_rfl) ?_)
       intro w361 b360 hn359
       have hS362 : Sep G335 w326 ((Blk b360 (e.cells v355).toArray 36) :: (RowE (α := Int) own 3 v355 e.deps) :: (RowE (α := Ev) (alt G335 w326) 36 vo (listK e L k)) :: (Blk b #[.int .i64 ((n : Nat) : Int), vl] 78) :: (RowE (α := Int) own 3 v166 (vecE n L)) :: (Blk b124 (((getE L (e.origin, e.seq)).getD default).cells v118).toArray 36) :: (RowE (α := Int) own 3 v118 (((getE L (e.origin, e.seq)).getD default).deps)) :: (Blk b13 (e.cells de0).toArray 36) :: Rs) w361 := hS357.new hn359
       have hbk366 := hS362.blk (i := 0) rfl
       have hS367 : Sep G335 w326 ((RowE (α := Ev) (alt G335 w326) 36 vo (listK e L k)) :: (RowE (α := Int) own 3 v355 e.deps) :: (Blk b #[.int .i64 ((n : Nat) : Int), vl] 78) :: (RowE (α := Int) own 3 v166 (vecE n L)) :: (Blk b124 (((getE L (e.origin, e.seq)).getD default).cells v118).toArray 36) :: (RowE (α := Int) own 3 v118 (((getE L (e.origin, e.seq)).getD default).deps)) :: (Blk b13 (e.cells de0).toArray 36) :: Rs) w361 := hS362.sel 8 [2, 1, 3, 4, 5, 6, 7] (Nat.le_add_left _ _) rfl rfl
       refine st (ov_append1S (src := (alt G335 w326)) (bytes := 96) (x1 := e) hS367 el22 rfl rfl hbk366 (fun _ _ hN => alt_own hN oe) (by first | omega | (simp only [List.length_append, List.length_cons, List.length_nil, List.length_take, List.length_drop]; omega)) rfl ?_)
       intro v364 w363 hS365
       have hr368 := hS365.row (i := 0) rfl
       have hr368s : ((listK e L k) ++ [e]).length * 96 ≤ 140737488355328 := hr368.2
       refine st (ov_assign (v := v364) rfl ?_)
       refine st_nil ?_
       refine WP_seq ?_
       refine WP_region0 (by kernel_rfl) (fun _ => ?_)
       refine st (ov_move (v := .pointer (some ⟨b, 0, none⟩)) rfl ?_)
       refine st (ov_move (v := v364) rfl ?_)
       refine st (ov_nilCheck (b := b) (o := 0) rfl ?_)
       refine st (fd78_1 rfl ?_)
       refine stn (ov_store1 (v := v364) (c := [.int .i64 ((n : Nat) : Int), vl]) (c' := [.int .i64 ((n : Nat) : Int), v364]) Try.sizeOf22 rfl rfl (hS365.blk (i := 1) rfl) hr368.1.one rfl rfl ?_)
       intro w369 hp370
       have hS371 : Sep G335 w326 ((RowE (α := Ev) (alt G335 w326) 36 v364 ((listK e L k) ++ [e])) :: (Blk b #[.int .i64 ((n : Nat) : Int), v364] 78) :: (RowE (α := Int) own 3 v166 (vecE n L)) :: (Blk b124 (((getE L (e.origin, e.seq)).getD default).cells v118).toArray 36) :: (RowE (α := Int) own 3 v118 (((getE L (e.origin, e.seq)).getD default).deps)) :: (Blk b13 (e.cells de0).toArray 36) :: Rs) w369 := hS365.put (i := 1) rfl hp370
       refine st_nil ?_
       refine WP_seq ?_
       refine WP_region0 (by kernel_rfl) (fun _ => ?_)
       refine st (ov_assign (v := .int .i64 (0)) rfl ?_)
       refine st_nil ?_
       refine WP_ret ?_
       refine fin1 Try.results22 (show _ = (.int .i64 (0) : Value) from rfl) ?_
       have hS372 : Sep G W ((RowE (α := Ev) own 36 vl L) :: (RowE (α := Ev) (alt G335 w326) 36 v364 ((listK e L k) ++ [e])) :: (Blk b #[.int .i64 ((n : Nat) : Int), v364] 78) :: (RowE (α := Int) own 3 v166 (vecE n L)) :: (Blk b124 (((getE L (e.origin, e.seq)).getD default).cells v118).toArray 36) :: (RowE (α := Int) own 3 v118 (((getE L (e.origin, e.seq)).getD default).deps)) :: (Blk b13 (e.cells de0).toArray 36) :: Rs) w369 := hk340 _ _ hS371
       have hS373 : Sep G W ((RowE (α := Ev) own 36 vl L) :: Rs) w369 := hS372.sel 7 [0] (Nat.le_add_left _ _) rfl rfl
       refine ⟨(insE e L), ?_, ?_, hS373⟩
       · rw [add_0 hc117 hc130 (by rw [hv9] at hc325; exact hc325) (fun i hi => hm i (by omega))]
       · rw [addL_yes (add_0 hc117 hc130 (by rw [hv9] at hc325; exact hc325) (fun i hi => hm i (by omega)))]
     ·skip
      have hc348r := hc348
      have hc348 := of_decide_eq_true hc348
      refine WP_cond_t rfl ?_
      refine WP_skip ?_
      refine WP_seq ?_
      refine WP_block ?_
      refine WP_seq ?_
      refine WP_seq ?_
      refine WP_draw4 (WF [fun vals wq => Sep G335 w326 ((RowE (α := Ev) (alt G335 w326) 36 vo (listK e L k)) :: (Blk b #[.int .i64 ((n : Nat) : Int), vl] 78) :: (RowE (α := Int) own 3 v166 (vecE n L)) :: (Blk b124 (((getE L (e.origin, e.seq)).getD default).cells v118).toArray 36) :: (RowE (α := Int) own 3 v118 (((getE L (e.origin, e.seq)).getD default).deps)) :: (Blk b13 (e.cells de0).toArray 36) :: Rs) wq, fun vals wq => (vals 11 = (if (!(laidB e L k)) = true then (.bool ((ltE e (L.getD k default))) : Value) else undef)) ∧ Sep G335 w326 ((RowE (α := Ev) (alt G335 w326) 36 vo (listK e L k)) :: (Blk b #[.int .i64 ((n : Nat) : Int), vl] 78) :: (RowE (α := Int) own 3 v166 (vecE n L)) :: (Blk b124 (((getE L (e.origin, e.seq)).getD default).cells v118).toArray 36) :: (RowE (α := Int) own 3 v118 (((getE L (e.origin, e.seq)).getD default).deps)) :: (Blk b13 (e.cells de0).toArray 36) :: Rs) wq]) (AF [Vl 0 (.bool ((laidB e L k))), Vl 1 (.bool (!(laidB e L k))), Vl 2 (.bool (!(laidB e L k))), Vl 3 (if (!(laidB e L k)) = true then .agg (e.cells de0).toArray else undef), Vl 4 (if (!(laidB e L k)) = true then .pointer (some ⟨b, 0, none⟩) else undef), Vl 5 (if (!(laidB e L k)) = true then .pointer (some ⟨b, 0, none⟩) else undef), Vl 6 (if (!(laidB e L k)) = true then .pointer (some ⟨b, 1, none⟩) else undef), Vl 7 (if (!(laidB e L k)) = true then vl else undef), Vl 8 (if (!(laidB e L k)) = true then .int .i64 ((k : Nat) : Int) else undef), Vl 9 (if (!(laidB e L k)) = true then .pointer (some ⟨sb vl, so vl + k * 10, none⟩) else undef), Vl 10 (if (!(laidB e L k)) = true then .agg ((L.getD k default).cells (cellV w326 (sb vl) (so vl + k * 10 + 3))).toArray else undef), fun _ => True, Vl 12 (.bool ((!(laidB e L k)) && (ltE e (L.getD k default))))]) [[], [0], [0, 1], [0, 1, 2], [0, 1, 2], [0, 1, 2, 4], [0, 1, 2, 4, 5], [0, 1, 2, 4, 5, 6], [0, 1, 2], [0, 1, 2, 4, 5, 6, 7, 8], [0, 1, 2, 4, 5, 6, 7, 8, 9], [0, 1, 2, 3, 4, 5, 6, 7, 8, 9, 10], [0, 1, 2, 3, 4, 5, 6, 7, 8, 9, 10, 11]] [11] [(0, 0), (0, 0), (0, 0), (0, 0), (0, 0), (0, 0), (0, 0), (0, 0), (0, 0), (0, 0), (0, 0), (0, 0), (1, 1)] (by kernel_rfl) (by kernel_rfl) (by kernel_rfl) rfl (by kernel_rfl) (by kernel_rfl) (fun _ h1 h2 h3 h4 _ => hS346.same h1 h2 h3 h4) ?_ (AF_loc ⟨dA, dA, dA, dA, dA, dA, dA, dA, dA, dA, dA, dT, dA, trivial⟩) ⟨?_, ?_, ?_, ?_, ?_, ?_, ?_, ?_, ?_, ?_, ?_, ?_, ?_, trivial⟩ ?_
      ·intro k vals vals' w hv h
       have e : ∀ j ∈ ([11] : List Nat), vals' j = vals j := hv
       match k, h with
       | 0, h => exact h
       | 1, h => exact (by simpa only [WF, List.getElem?_cons_zero, List.getElem?_cons_succ, e 11 (by decide)] using h)
       | _ + 2, _ => trivial
      ·intro k508 vals w509 h512 h513 hW511 hA510
       refine obl rfl ?_
       exact ov_move (v := .bool ((laidB e L k))) rfl (fun vals' hv _ => ⟨rfl, hv⟩)
      ·intro k514 vals w515 h518 h519 hW517 hA516
       have e520 := hA516 0 (by decide)
       refine obl rfl ?_
       exact ov_not (a := (laidB e L k)) e520 (fun vals' hv _ => ⟨rfl, hv⟩)
      ·intro k521 vals w522 h525 h526 hW524 hA523
       have e527 := hA523 1 (by decide)
       refine obl rfl ?_
       exact ov_move (v := .bool (!(laidB e L k))) e527 (fun vals' hv _ => ⟨rfl, hv⟩)
      ·intro k528 vals w529 h532 h533 hW531 hA530
       obtain rfl : k528 = 0 := Nat.le_antisymm h533 h532
       have hS534 : Sep G335 w326 ((RowE (α := Ev) (alt G335 w326) 36 vo (listK e L k)) :: (Blk b #[.int .i64 ((n : Nat) : Int), vl] 78) :: (RowE (α := Int) own 3 v166 (vecE n L)) :: (Blk b124 (((getE L (e.origin, e.seq)).getD default).cells v118).toArray 36) :: (RowE (α := Int) own 3 v118 (((getE L (e.origin, e.seq)).getD default).deps)) :: (Blk b13 (e.cells de0).toArray 36) :: Rs) w529 := hW531
       have e535 := hA530 2 (by decide)
       refine oblc rfl rfl e535 (fun hb536 => ?_) (fun hb536 => fun vals' hv _ => ⟨trivial, hv.trans (if_neg hb536).symm⟩)
       have hl537 := hb536
       try simp only [bools] at hl537
       exact ov_loadk (k := 10) Try.isAgg36 Try.sizeOf36 rfl rfl (CellsAt.all (hS534.blk (i := 5) rfl)) (fun vals' hv _ => ⟨rfl, hv.trans (if_pos hb536).symm⟩)
      ·intro k538 vals w539 h542 h543 hW541 hA540
       have e544 := hA540 2 (by decide)
       refine oblc rfl rfl e544 (fun hb545 => ?_) (fun hb545 => fun vals' hv _ => ⟨trivial, hv.trans (if_neg hb545).symm⟩)
       have hl546 := hb545
       try simp only [bools] at hl546
       exact ov_move (v := .pointer (some ⟨b, 0, none⟩)) rfl (fun vals' hv _ => ⟨rfl, hv.trans (if_pos hb545).symm⟩)
      ·intro k547 vals w548 h551 h552 hW550 hA549
       have e553 := hA549 2 (by decide)
       have e554 : vals 4 = (if (!(laidB e L k)) = true then (.pointer (some ⟨b, 0, none⟩) : Value) else undef) := hA549 4 (by decide)
       refine oblc rfl rfl e553 (fun hb555 => ?_) (fun hb555 => fun vals' hv _ => ⟨trivial, hv.trans (if_neg hb555).symm⟩)
       have hl556 := hb555
       try simp only [bools] at hl556
       exact ov_nilCheck (b := b) (o := 0) (show _ = (.pointer (some ⟨b, 0, none⟩) : Value) from (Eq.trans e554 (if_pos hb555))) (fun vals' hv _ => ⟨rfl, hv.trans (if_pos hb555).symm⟩)
      ·intro k557 vals w558 h561 h562 hW560 hA559
       have e563 := hA559 2 (by decide)
       have e564 : vals 5 = (if (!(laidB e L k)) = true then (.pointer (some ⟨b, 0, none⟩) : Value) else undef) := hA559 5 (by decide)
       refine oblc rfl rfl e563 (fun hb565 => ?_) (fun hb565 => fun vals' hv _ => ⟨trivial, hv.trans (if_neg hb565).symm⟩)
       have hl566 := hb565
       try simp only [bools] at hl566
       exact fd78_1 (show _ = (.pointer (some ⟨b, 0, none⟩) : Value) from (Eq.trans e564 (if_pos hb565))) (fun vals' hv _ => ⟨rfl, hv.trans (if_pos hb565).symm⟩)
      ·intro k567 vals w568 h571 h572 hW570 hA569
       obtain rfl : k567 = 0 := Nat.le_antisymm h572 h571
       have hS573 : Sep G335 w326 ((RowE (α := Ev) (alt G335 w326) 36 vo (listK e L k)) :: (Blk b #[.int .i64 ((n : Nat) : Int), vl] 78) :: (RowE (α := Int) own 3 v166 (vecE n L)) :: (Blk b124 (((getE L (e.origin, e.seq)).getD default).cells v118).toArray 36) :: (RowE (α := Int) own 3 v118 (((getE L (e.origin, e.seq)).getD default).deps)) :: (Blk b13 (e.cells de0).toArray 36) :: Rs) w568 := hW570
       have e574 := hA569 2 (by decide)
       have e575 : vals 6 = (if (!(laidB e L k)) = true then (.pointer (some ⟨b, 1, none⟩) : Value) else undef) := hA569 6 (by decide)
       refine oblc rfl rfl e574 (fun hb576 => ?_) (fun hb576 => fun vals' hv _ => ⟨trivial, hv.trans (if_neg hb576).symm⟩)
       have hl577 := hb576
       try simp only [bools] at hl577
       exact ov_load1 (v := vl) Try.isAgg22 (show _ = (.pointer (some ⟨b, 1, none⟩) : Value) from (Eq.trans e575 (if_pos hb576))) (blk_cellL (hS573.blk (i := 1) rfl) rfl) (fun vals' hv _ => ⟨rfl, hv.trans (if_pos hb576).symm⟩)
      ·intro k578 vals w579 h582 h583 hW581 hA580
       have e584 := hA580 2 (by decide)
       refine oblc rfl rfl e584 (fun hb585 => ?_) (fun hb585 => fun vals' hv _ => ⟨trivial, hv.trans (if_neg hb585).symm⟩)
       have hl586 := hb585
       try simp only [bools] at hl586
       exact ov_move (v := .int .i64 ((k : Nat) : Int)) rfl (fun vals' hv _ => ⟨rfl, hv.trans (if_pos hb585).symm⟩)
      ·intro k587 vals w588 h591 h592 hW590 hA589
       obtain rfl : k587 = 0 := Nat.le_antisymm h592 h591
       have hS593 : Sep G335 w326 ((RowE (α := Ev) (alt G335 w326) 36 vo (listK e L k)) :: (Blk b #[.int .i64 ((n : Nat) : Int), vl] 78) :: (RowE (α := Int) own 3 v166 (vecE n L)) :: (Blk b124 (((getE L (e.origin, e.seq)).getD default).cells v118).toArray 36) :: (RowE (α := Int) own 3 v118 (((getE L (e.origin, e.seq)).getD default).deps)) :: (Blk b13 (e.cells de0).toArray 36) :: Rs) w588 := hW590
       have e594 := hA589 2 (by decide)
       have e595 : vals 7 = (if (!(laidB e L k)) = true then (vl : Value) else undef) := hA589 7 (by decide)
       have e596 : vals 8 = (if (!(laidB e L k)) = true then (.int .i64 ((k : Nat) : Int) : Value) else undef) := hA589 8 (by decide)
       refine oblc rfl rfl e594 (fun hb597 => ?_) (fun hb597 => fun vals' hv _ => ⟨trivial, hv.trans (if_neg hb597).symm⟩)
       have hl598 := hb597
       try simp only [bools] at hl598
       have hi599 : k < L.length := (by first | omega | (simp only [lens]; omega))
       exact ov_indexAddrN (k := 10) (i := k) Try.underlying22 Try.sizeOf36 (show _ = (vl : Value) from (Eq.trans e595 (if_pos hb597))) hrd341.sl (show _ = (.int .i64 ((k : Nat) : Int) : Value) from (Eq.trans e596 (if_pos hb597))) hi599 (fun vals' hv _ => ⟨rfl, hv.trans (if_pos hb597).symm⟩)
      ·intro k600 vals w601 h604 h605 hW603 hA602
       obtain rfl : k600 = 0 := Nat.le_antisymm h605 h604
       have hS606 : Sep G335 w326 ((RowE (α := Ev) (alt G335 w326) 36 vo (listK e L k)) :: (Blk b #[.int .i64 ((n : Nat) : Int), vl] 78) :: (RowE (α := Int) own 3 v166 (vecE n L)) :: (Blk b124 (((getE L (e.origin, e.seq)).getD default).cells v118).toArray 36) :: (RowE (α := Int) own 3 v118 (((getE L (e.origin, e.seq)).getD default).deps)) :: (Blk b13 (e.cells de0).toArray 36) :: Rs) w601 := hW603
       have e607 := hA602 2 (by decide)
       have e608 : vals 9 = (if (!(laidB e L k)) = true then (.pointer (some ⟨sb vl, so vl + k * 10, none⟩) : Value) else undef) := hA602 9 (by decide)
       refine oblc rfl rfl e607 (fun hb609 => ?_) (fun hb609 => fun vals' hv _ => ⟨trivial, hv.trans (if_neg hb609).symm⟩)
       have hl610 := hb609
       try simp only [bools] at hl610
       have hi612 : k < L.length := (by first | omega | (simp only [lens]; omega))
       obtain ⟨hce611, hde611_0, hoke611⟩ := hrd341.ev hi612
       rw [← getD_at default hi612] at hce611 hde611_0 hoke611
       have hsm613 : ((L.getD k default).deps).length * 8 ≤ 140737488355328 := hde611_0.small
       have hcw614 := hS606.cells hce611 (hrd341.foot (ne_of_lt hi612))
       exact ov_loadk (k := 10) Try.isAgg36 Try.sizeOf36 rfl (show _ = (.pointer (some ⟨sb vl, so vl + k * 10, none⟩) : Value) from (Eq.trans e608 (if_pos hb609))) hcw614 (fun vals' hv _ => ⟨rfl, hv.trans (if_pos hb609).symm⟩)
      ·intro k481 vals w482 h485 h486 hW484 hA483
       obtain rfl : k481 = 0 := Nat.le_antisymm h486 h485
       have hS487 : Sep G335 w326 ((RowE (α := Ev) (alt G335 w326) 36 vo (listK e L k)) :: (Blk b #[.int .i64 ((n : Nat) : Int), vl] 78) :: (RowE (α := Int) own 3 v166 (vecE n L)) :: (Blk b124 (((getE L (e.origin, e.seq)).getD default).cells v118).toArray 36) :: (RowE (α := Int) own 3 v118 (((getE L (e.origin, e.seq)).getD default).deps)) :: (Blk b13 (e.cells de0).toArray 36) :: Rs) w482 := hW484
       have e488 := hA483 2 (by decide)
       have e489 : vals 3 = (if (!(laidB e L k)) = true then (.agg (e.cells de0).toArray : Value) else undef) := hA483 3 (by decide)
       have e490 : vals 10 = (if (!(laidB e L k)) = true then (.agg ((L.getD k default).cells (cellV w326 (sb vl) (so vl + k * 10 + 3))).toArray : Value) else undef) := hA483 10 (by decide)
       refine oblc rfl rfl e488 (fun hb491 => ?_) (fun hb491 vals' hv hv' => ?_)
       ·skip
        have hl492 := hb491
        try simp only [bools] at hl492
        have hi494 : k < L.length := (by first | omega | (simp only [lens]; omega))
        obtain ⟨hce493, hde493_0, hoke493⟩ := hrd341.ev hi494
        rw [← getD_at default hi494] at hce493 hde493_0 hoke493
        have hsm495 : ((L.getD k default).deps).length * 8 ≤ 140737488355328 := hde493_0.small
        have hcw496 := hS487.cells hce493 (hrd341.foot (ne_of_lt hi494))
        refine (ov_call (f := 56) (vals := [.agg (e.cells de0).toArray, .agg ((L.getD k default).cells (cellV w326 (sb vl) (so vl + k * 10 + 3))).toArray]) (cap := []) (show _ = (.func (.func 56) #[] #[] : Value) from rfl) (mapL ⟨(show _ = (.agg (e.cells de0).toArray : Value) from (Eq.trans e489 (if_pos hb491))), (show _ = (.agg ((L.getD k default).cells (cellV w326 (sb vl) (so vl + k * 10 + 3))).toArray : Value) from (Eq.trans e490 (if_pos hb491))), trivial⟩) Try.call56 (D_less9 (a := e) (b := (L.getD k default)) (RdS.base hde0 hB338) oe hde493_0 hoke493 hS487) ?_)
        rintro _ w497 ⟨rfl, hS498⟩
        intro vals' hv hv'
        refine ⟨?_, trivial⟩
        show (vals' 11 = (if (!(laidB e L k)) = true then (.bool ((ltE e (L.getD k default))) : Value) else undef)) ∧ Sep G335 w326 ((RowE (α := Ev) (alt G335 w326) 36 vo (listK e L k)) :: (Blk b #[.int .i64 ((n : Nat) : Int), vl] 78) :: (RowE (α := Int) own 3 v166 (vecE n L)) :: (Blk b124 (((getE L (e.origin, e.seq)).getD default).cells v118).toArray 36) :: (RowE (α := Int) own 3 v118 (((getE L (e.origin, e.seq)).getD default).deps)) :: (Blk b13 (e.cells de0).toArray 36) :: Rs) w497
        exact ⟨(hv.trans (if_pos hb491).symm), hS498⟩
       ·skip
        refine ⟨?_, trivial⟩
        show (vals' 11 = (if (!(laidB e L k)) = true then (.bool ((ltE e (L.getD k default))) : Value) else undef)) ∧ Sep G335 w326 ((RowE (α := Ev) (alt G335 w326) 36 vo (listK e L k)) :: (Blk b #[.int .i64 ((n : Nat) : Int), vl] 78) :: (RowE (α := Int) own 3 v166 (vecE n L)) :: (Blk b124 (((getE L (e.origin, e.seq)).getD default).cells v118).toArray 36) :: (RowE (α := Int) own 3 v118 (((getE L (e.origin, e.seq)).getD default).deps)) :: (Blk b13 (e.cells de0).toArray 36) :: Rs) w482
        exact ⟨(hv.trans (if_neg hb491).symm), hS487⟩
      ·intro k615 vals w616 h619 h620 hW618 hA617
       obtain rfl : k615 = 1 := Nat.le_antisymm h620 h619
       obtain ⟨he499, hS621⟩ := hW618
       have e622 := hA617 2 (by decide)
       refine obl rfl ?_
       exact ov_pick_and (b := !(laidB e L k)) (b' := (ltE e (L.getD k default))) e622 (fun hbp => (show _ = (.bool ((ltE e (L.getD k default))) : Value) from (Eq.trans he499 (if_pos hbp)))) (fun vals' hv _ => ⟨rfl, hv⟩)
      intro vals w623 hW624 hA625
      obtain ⟨he499, hS626⟩ := hW624
      have e627 := hA625 12 (by decide)
      refine st_env (kv := [(0, .pointer (some ⟨b, 0, none⟩)), (3, .pointer (some ⟨b13, 0, none⟩)), (10, .bool ((laidB e L k))), (11, .int .i64 ((k : Nat) : Int)), (9, vo), (54, .int .i64 ((k : Nat) : Int)), (55, .pointer (some ⟨b, 0, none⟩)), (56, .pointer (some ⟨b, 0, none⟩)), (57, .pointer (some ⟨b, 1, none⟩)), (58, vl), (59, .int .i64 ((L.length : Nat) : Int)), (60, .bool true), (75, .bool ((!(laidB e L k)) && (ltE e (L.getD k default))))]) ⟨rfl, rfl, rfl, rfl, rfl, rfl, rfl, rfl, rfl, rfl, rfl, rfl, (by exact e627), trivial⟩ (fun ρw623 => ?_)
      refine st_nil ?_
      cases hc628 : (!(laidB e L k)) && (ltE e (L.getD k default))
      ·skip
       have hc628r := hc628
       try simp only [bools] at hc628
       refine WP_cond_f rfl ?_
       refine WP_skip ?_
       refine WP_region0 (by kernel_rfl) (fun _ => ?_)
       refine st (ov_move (v := vo) rfl ?_)
       refine st (ov_move (v := .pointer (some ⟨b, 0, none⟩)) rfl ?_)
       refine st (ov_nilCheck (b := b) (o := 0) rfl ?_)
       refine st (fd78_1 rfl ?_)
       refine st (ov_load1 (v := vl) Try.isAgg22 rfl (blk_cellL (hS626.blk (i := 1) rfl) rfl) ?_)
       refine st (ov_move (v := .int .i64 ((k : Nat) : Int)) rfl ?_)
       have hi629 : k < L.length := (by first | omega | (simp only [lens]; omega))
       refine st (ov_indexAddrN (k := 10) (i := k) Try.underlying22 Try.sizeOf36 rfl hrd341.sl rfl hi629 ?_)
       have hi631 : k < L.length := (by first | omega | (simp only [lens]; omega))
       obtain ⟨hce630, hde630_0, hoke630⟩ := hrd341.ev hi631
       rw [← getD_at default hi631] at hce630 hde630_0 hoke630
       have hsm632 : ((L.getD k default).deps).length * 8 ≤ 140737488355328 := hde630_0.small
       have hcw633 := hS626.cells hce630 (hrd341.foot (ne_of_lt hi631))
       refine st (ov_loadk (k := 10) Try.isAgg36 Try.sizeOf36 rfl rfl hcw633 ?_)
       refine st (ov_buildSlice (k := 10) (parts' := [(0, .agg ((L.getD k default).cells (cellV w326 (sb vl) (so vl + k * 10 + 3))).toArray)]) (c := ((L.getD k default).cells (cellV w326 (sb vl) (so vl + k * 10 + 3))).toArray) Try.underlying22 Try.sizeOf36 Try.zeroValue36 (by decide) rfl (by kernel_rfl) ?_)
       intro w636 b635 hn634
       have hS637 : Sep G335 w326 ((Blk b635 ((L.getD k default).cells (cellV w326 (sb vl) (so vl + k * 10 + 3))).toArray 36) :: (RowE (α := Ev) (alt G335 w326) 36 vo (listK e L k)) :: (Blk b #[.int .i64 ((n : Nat) : Int), vl] 78) :: (RowE (α := Int) own 3 v166 (vecE n L)) :: (Blk b124 (((getE L (e.origin, e.seq)).getD default).cells v118).toArray 36) :: (RowE (α := Int) own 3 v118 (((getE L (e.origin, e.seq)).getD default).deps)) :: (Blk b13 (e.cells de0).toArray 36) :: Rs) w636 := hS626.new hn634
       have hbk641 := hS637.blk (i := 0) rfl
       have hS642 : Sep G335 w326 ((RowE (α := Ev) (alt G335 w326) 36 vo (listK e L k)) :: (Blk b #[.int .i64 ((n : Nat) : Int), vl] 78) :: (RowE (α := Int) own 3 v166 (vecE n L)) :: (Blk b124 (((getE L (e.origin, e.seq)).getD default).cells v118).toArray 36) :: (RowE (α := Int) own 3 v118 (((getE L (e.origin, e.seq)).getD default).deps)) :: (Blk b13 (e.cells de0).toArray 36) :: Rs) w636 := hS637.sel 7 [1, 2, 3, 4, 5, 6] (Nat.le_add_left _ _) rfl rfl
       have hS643 : Sep G335 w326 ((RowE (α := Ev) (alt G335 w326) 36 vo (listK e L k)) :: Emp :: (Blk b #[.int .i64 ((n : Nat) : Int), vl] 78) :: (RowE (α := Int) own 3 v166 (vecE n L)) :: (Blk b124 (((getE L (e.origin, e.seq)).getD default).cells v118).toArray 36) :: (RowE (α := Int) own 3 v118 (((getE L (e.origin, e.seq)).getD default).deps)) :: (Blk b13 (e.cells de0).toArray 36) :: Rs) w636 := hS642.emp1
       refine st (ov_append1S (src := (alt G335 w326)) (bytes := 96) (x1 := (L.getD k default)) hS643 el22 rfl rfl hbk641 (fun _ _ _ => (show _ from alt_in (RdS.evD hrd341 (by omega)))) (by first | omega | (simp only [List.length_append, List.length_cons, List.length_nil, List.length_take, List.length_drop]; omega)) rfl ?_)
       intro v639 w638 hS640
       have hr644 := hS640.row (i := 0) rfl
       have hr644s : ((listK e L k) ++ [(L.getD k default)]).length * 96 ≤ 140737488355328 := hr644.2
       refine st (ov_assign (v := v639) rfl ?_)
       refine st_nil ?_
       refine WP_region0 (by kernel_rfl) (fun _ => ?_)
       refine st (ov_move (v := .int .i64 ((k : Nat) : Int)) rfl ?_)
       have hr645 : InR ((k + 1 : Nat) : Int) := by first | omega | (simp only [lens]; omega)
       refine st (ov_add (r := ((k + 1 : Nat) : Int)) (k := .i64) (a := ((k : Nat) : Int)) (b := 1) rfl rfl (by rw [show (((k : Nat) : Int) + 1 : Int) = ((k + 1 : Nat) : Int) by first | omega | (simp only [lens]; omega)]; exact wrap_in hr645) ?_)
       refine st (ov_assign (v := .int .i64 ((k + 1 : Nat) : Int)) rfl ?_)
       refine st_nil ?_
       have hL646 : (listK e L (k + 1)) = (listK e L k) ++ [(L.getD k default)] := (list_pass (by omega) hc628r).1
       rw [← hL646] at hS640
       exact ⟨_, by omega, k + 1, v639, _, rfl, setAll_self ⟨rfl, rfl, (show _ = (.bool (laidB e L (k + 1)) : Value) from (congrArg Value.bool (list_pass (by omega) hc628r).2).symm), rfl, rfl, trivial⟩, by omega, hS640⟩
      ·skip
       have hc628r := hc628
       try simp only [bools] at hc628
       refine WP_cond_t rfl ?_
       refine WP_seq ?_
       refine WP_region0 (by kernel_rfl) (fun _ => ?_)
       refine st (ov_move (v := vo) rfl ?_)
       refine st (ov_loadk (k := 10) Try.isAgg36 Try.sizeOf36 rfl rfl (CellsAt.all (hS626.blk (i := 5) rfl)) ?_)
       refine st (ov_call (f := 23) (vals := [.agg (e.cells de0).toArray]) (cap := []) (show _ = (.func (.func 23) #[] #[] : Value) from rfl) rfl Try.call23 (D_copyEvent (e := e) (RdS.base hde0 hB338) oe hS626) ?_)
       rintro _ w648 ⟨v647, rfl, hS649⟩
       have hr650 := hS649.row (i := 0) rfl
       have hr650s : e.deps.length * 8 ≤ 140737488355328 := hr650.2
       refine st (ov_buildSlice (k := 10) (parts' := [(0, .agg (e.cells v647).toArray)]) (c := (e.cells v647).toArray) Try.underlying22 Try.sizeOf36 Try.zeroValue36 (by decide) rfl (by kernel_rfl) ?_)
       intro w653 b652 hn651
       have hS654 : Sep G335 w326 ((Blk b652 (e.cells v647).toArray 36) :: (RowE (α := Int) own 3 v647 e.deps) :: (RowE (α := Ev) (alt G335 w326) 36 vo (listK e L k)) :: (Blk b #[.int .i64 ((n : Nat) : Int), vl] 78) :: (RowE (α := Int) own 3 v166 (vecE n L)) :: (Blk b124 (((getE L (e.origin, e.seq)).getD default).cells v118).toArray 36) :: (RowE (α := Int) own 3 v118 (((getE L (e.origin, e.seq)).getD default).deps)) :: (Blk b13 (e.cells de0).toArray 36) :: Rs) w653 := hS649.new hn651
       have hbk658 := hS654.blk (i := 0) rfl
       have hS659 : Sep G335 w326 ((RowE (α := Ev) (alt G335 w326) 36 vo (listK e L k)) :: (RowE (α := Int) own 3 v647 e.deps) :: (Blk b #[.int .i64 ((n : Nat) : Int), vl] 78) :: (RowE (α := Int) own 3 v166 (vecE n L)) :: (Blk b124 (((getE L (e.origin, e.seq)).getD default).cells v118).toArray 36) :: (RowE (α := Int) own 3 v118 (((getE L (e.origin, e.seq)).getD default).deps)) :: (Blk b13 (e.cells de0).toArray 36) :: Rs) w653 := hS654.sel 8 [2, 1, 3, 4, 5, 6, 7] (Nat.le_add_left _ _) rfl rfl
       refine st (ov_append1S (src := (alt G335 w326)) (bytes := 96) (x1 := e) hS659 el22 rfl rfl hbk658 (fun _ _ hN => alt_own hN oe) (by first | omega | (simp only [List.length_append, List.length_cons, List.length_nil, List.length_take, List.length_drop]; omega)) rfl ?_)
       intro v656 w655 hS657
       have hr660 := hS657.row (i := 0) rfl
       have hr660s : ((listK e L k) ++ [e]).length * 96 ≤ 140737488355328 := hr660.2
       refine st (ov_assign (v := v656) rfl ?_)
       refine st_nil ?_
       refine WP_region0 (by kernel_rfl) (fun _ => ?_)
       refine st (ov_assign (v := .bool true) rfl ?_)
       refine st_nil ?_
       refine WP_region0 (by kernel_rfl) (fun _ => ?_)
       refine st (ov_move (v := v656) rfl ?_)
       refine st (ov_move (v := .pointer (some ⟨b, 0, none⟩)) rfl ?_)
       refine st (ov_nilCheck (b := b) (o := 0) rfl ?_)
       refine st (fd78_1 rfl ?_)
       refine st (ov_load1 (v := vl) Try.isAgg22 rfl (blk_cellL (hS657.blk (i := 1) rfl) rfl) ?_)
       refine st (ov_move (v := .int .i64 ((k : Nat) : Int)) rfl ?_)
       have hi661 : k < L.length := (by first | omega | (simp only [lens]; omega))
       refine st (ov_indexAddrN (k := 10) (i := k) Try.underlying22 Try.sizeOf36 rfl hrd341.sl rfl hi661 ?_)
       have hi663 : k < L.length := (by first | omega | (simp only [lens]; omega))
       obtain ⟨hce662, hde662_0, hoke662⟩ := hrd341.ev hi663
       rw [← getD_at default hi663] at hce662 hde662_0 hoke662
       have hsm664 : ((L.getD k default).deps).length * 8 ≤ 140737488355328 := hde662_0.small
       have hcw665 := hS657.cells hce662 (hrd341.foot (ne_of_lt hi663))
       refine st (ov_loadk (k := 10) Try.isAgg36 Try.sizeOf36 rfl rfl hcw665 ?_)
       refine st (ov_buildSlice (k := 10) (parts' := [(0, .agg ((L.getD k default).cells (cellV w326 (sb vl) (so vl + k * 10 + 3))).toArray)]) (c := ((L.getD k default).cells (cellV w326 (sb vl) (so vl + k * 10 + 3))).toArray) Try.underlying22 Try.sizeOf36 Try.zeroValue36 (by decide) rfl (by kernel_rfl) ?_)
       intro w668 b667 hn666
       have hS669 : Sep G335 w326 ((Blk b667 ((L.getD k default).cells (cellV w326 (sb vl) (so vl + k * 10 + 3))).toArray 36) :: (RowE (α := Ev) (alt G335 w326) 36 v656 ((listK e L k) ++ [e])) :: (Blk b #[.int .i64 ((n : Nat) : Int), vl] 78) :: (RowE (α := Int) own 3 v166 (vecE n L)) :: (Blk b124 (((getE L (e.origin, e.seq)).getD default).cells v118).toArray 36) :: (RowE (α := Int) own 3 v118 (((getE L (e.origin, e.seq)).getD default).deps)) :: (Blk b13 (e.cells de0).toArray 36) :: Rs) w668 := hS657.new hn666
       have hbk673 := hS669.blk (i := 0) rfl
       have hS674 : Sep G335 w326 ((RowE (α := Ev) (alt G335 w326) 36 v656 ((listK e L k) ++ [e])) :: (Blk b #[.int .i64 ((n : Nat) : Int), vl] 78) :: (RowE (α := Int) own 3 v166 (vecE n L)) :: (Blk b124 (((getE L (e.origin, e.seq)).getD default).cells v118).toArray 36) :: (RowE (α := Int) own 3 v118 (((getE L (e.origin, e.seq)).getD default).deps)) :: (Blk b13 (e.cells de0).toArray 36) :: Rs) w668 := hS669.sel 7 [1, 2, 3, 4, 5, 6] (Nat.le_add_left _ _) rfl rfl
       have hS675 : Sep G335 w326 ((RowE (α := Ev) (alt G335 w326) 36 v656 ((listK e L k) ++ [e])) :: Emp :: (Blk b #[.int .i64 ((n : Nat) : Int), vl] 78) :: (RowE (α := Int) own 3 v166 (vecE n L)) :: (Blk b124 (((getE L (e.origin, e.seq)).getD default).cells v118).toArray 36) :: (RowE (α := Int) own 3 v118 (((getE L (e.origin, e.seq)).getD default).deps)) :: (Blk b13 (e.cells de0).toArray 36) :: Rs) w668 := hS674.emp1
       refine st (ov_append1S (src := (alt G335 w326)) (bytes := 96) (x1 := (L.getD k default)) hS675 el22 rfl rfl hbk673 (fun _ _ _ => (show _ from alt_in (RdS.evD hrd341 (by omega)))) (by first | omega | (simp only [List.length_append, List.length_cons, List.length_nil, List.length_take, List.length_drop]; omega)) rfl ?_)
       intro v671 w670 hS672
       have hr676 := hS672.row (i := 0) rfl
       have hr676s : ((listK e L k) ++ [e] ++ [(L.getD k default)]).length * 96 ≤ 140737488355328 := hr676.2
       refine st (ov_assign (v := v671) rfl ?_)
       refine st_nil ?_
       refine WP_region0 (by kernel_rfl) (fun _ => ?_)
       refine st (ov_move (v := .int .i64 ((k : Nat) : Int)) rfl ?_)
       have hr677 : InR ((k + 1 : Nat) : Int) := by first | omega | (simp only [lens]; omega)
       refine st (ov_add (r := ((k + 1 : Nat) : Int)) (k := .i64) (a := ((k : Nat) : Int)) (b := 1) rfl rfl (by rw [show (((k : Nat) : Int) + 1 : Int) = ((k + 1 : Nat) : Int) by first | omega | (simp only [lens]; omega)]; exact wrap_in hr677) ?_)
       refine st (ov_assign (v := .int .i64 ((k + 1 : Nat) : Int)) rfl ?_)
       refine st_nil ?_
       have hL678 : (listK e L (k + 1)) = (listK e L k) ++ [e] ++ [(L.getD k default)] := (list_hit (by omega) hc628r).1
       rw [← hL678] at hS672
       exact ⟨_, by omega, k + 1, v671, _, rfl, setAll_self ⟨rfl, rfl, (show _ = (.bool (laidB e L (k + 1)) : Value) from (congrArg Value.bool (list_hit (by omega) hc628r).2).symm), rfl, rfl, trivial⟩, by omega, hS672⟩
    ·skip
     have hc330r := hc330
     have hc330 := of_decide_eq_true hc330
     refine WP_cond_t rfl ?_
     refine WP_skip ?_
     refine WP_seq ?_
     refine WP_block ?_
     refine WP_seq ?_
     refine WP_region0 (by kernel_rfl) (fun _ => ?_)
     refine st (ov_move (v := .pointer (some ⟨b, 0, none⟩)) rfl ?_)
     refine st (ov_loadk (k := 10) Try.isAgg36 Try.sizeOf36 rfl rfl (CellsAt.all (hS329.blk (i := 3) rfl)) ?_)
     refine st (ov_move (v := .int .i64 ((k : Nat) : Int)) rfl ?_)
     refine st (ov_call (f := 55) (vals := [.pointer (some ⟨b, 0, none⟩), .agg (e.cells de0).toArray, .int .i64 ((k : Nat) : Int)]) (cap := []) (show _ = (.func (.func 55) #[] #[] : Value) from rfl) rfl Try.call55 (D_rknew (e := e) (o := k) hA7 (RdS.base hde0 hB4) oe (by first | omega | (refine ⟨?_, ?_⟩ <;> omega)) hS329 (hd9) (hG.len)) ?_)
     rintro _ w679 ⟨rfl, hS680⟩
     refine st (ov_not (a := (knewE L e k)) rfl ?_)
     refine st_nil ?_
     cases hc681 : !(knewE L e k)
     ·skip
      have hc681r := hc681
      try simp only [bools] at hc681
      refine WP_cond_f rfl ?_
      refine WP_skip ?_
      refine WP_region0 (by kernel_rfl) (fun _ => ?_)
      refine st (ov_move (v := .int .i64 ((k : Nat) : Int)) rfl ?_)
      have hr682 : InR ((k + 1 : Nat) : Int) := by first | omega | (simp only [lens]; omega)
      refine st (ov_add (r := ((k + 1 : Nat) : Int)) (k := .i64) (a := ((k : Nat) : Int)) (b := 1) rfl rfl (by rw [show (((k : Nat) : Int) + 1 : Int) = ((k + 1 : Nat) : Int) by first | omega | (simp only [lens]; omega)]; exact wrap_in hr682) ?_)
      refine st (ov_assign (v := .int .i64 ((k + 1 : Nat) : Int)) rfl ?_)
      refine st_nil ?_
      exact ⟨_, by omega, k + 1, _, rfl, setAll_self ⟨rfl, rfl, rfl, trivial⟩, by omega, (all_step hm (by simpa using hc681)), hS680⟩
     ·skip
      have hc681r := hc681
      try simp only [bools] at hc681
      refine WP_cond_t rfl ?_
      refine WP_seq ?_
      refine WP_region0 (by kernel_rfl) (fun _ => ?_)
      refine st (ov_assign (v := .int .i64 (9)) rfl ?_)
      refine st_nil ?_
      refine WP_ret ?_
      refine fin1 Try.results22 (show _ = (.int .i64 (9) : Value) from rfl) ?_
      have hS683 : Sep G W ((RefP b vl n L) :: (RowE (α := Int) own 3 v166 (vecE n L)) :: (Blk b124 (((getE L (e.origin, e.seq)).getD default).cells v118).toArray 36) :: (RowE (α := Int) own 3 v118 (((getE L (e.origin, e.seq)).getD default).deps)) :: (Blk b13 (e.cells de0).toArray 36) :: Rs) w679 := hk6 _ _ hS680
      have hS684 : Sep G W ((Blk b #[.int .i64 ((n : Nat) : Int), vl] 78) :: (RowE (α := Ev) own 36 vl L) :: (RowE (α := Int) own 3 v166 (vecE n L)) :: (Blk b124 (((getE L (e.origin, e.seq)).getD default).cells v118).toArray 36) :: (RowE (α := Int) own 3 v118 (((getE L (e.origin, e.seq)).getD default).deps)) :: (Blk b13 (e.cells de0).toArray 36) :: Rs) w679 := Sep.openStar hS683
      have hS685 : Sep G W ((RowE (α := Ev) own 36 vl L) :: Rs) w679 := hS684.sel 6 [1] (Nat.le_add_left _ _) rfl rfl
      refine ⟨L, ?_, ?_, hS685⟩
      · rw [add_k hc117 hc130 (by rw [hv9] at hc325; exact hc325) (k := k) (by omega) (by simpa using hc681)]
      · rw [addL_no (by rw [add_k hc117 hc130 (by rw [hv9] at hc325; exact hc325) (k := k) (by omega) (by simpa using hc681)]; decide)]
   ·skip
    have hc325r := hc325
    have hc325 := ndec_true hc325
    refine WP_cond_t rfl ?_
    refine WP_seq ?_
    refine WP_region0 (by kernel_rfl) (fun _ => ?_)
    refine st (ov_assign (v := .int .i64 (9)) rfl ?_)
    refine st_nil ?_
    refine WP_ret ?_
    refine fin1 Try.results22 (show _ = (.int .i64 (9) : Value) from rfl) ?_
    have hS686 : Sep G W ((RefP b vl n L) :: (RowE (α := Int) own 3 v166 (vecE n L)) :: (Blk b124 (((getE L (e.origin, e.seq)).getD default).cells v118).toArray 36) :: (RowE (α := Int) own 3 v118 (((getE L (e.origin, e.seq)).getD default).deps)) :: (Blk b13 (e.cells de0).toArray 36) :: Rs) w320 := hk6 _ _ hS323
    have hS687 : Sep G W ((Blk b #[.int .i64 ((n : Nat) : Int), vl] 78) :: (RowE (α := Ev) own 36 vl L) :: (RowE (α := Int) own 3 v166 (vecE n L)) :: (Blk b124 (((getE L (e.origin, e.seq)).getD default).cells v118).toArray 36) :: (RowE (α := Int) own 3 v118 (((getE L (e.origin, e.seq)).getD default).deps)) :: (Blk b13 (e.cells de0).toArray 36) :: Rs) w320 := Sep.openStar hS686
    have hS688 : Sep G W ((RowE (α := Ev) own 36 vl L) :: Rs) w320 := hS687.sel 6 [1] (Nat.le_add_left _ _) rfl rfl
    refine ⟨L, ?_, ?_, hS688⟩
    · rw [add_s hc117 hc130 (by rw [hv9] at hc325; exact hc325)]
    · rw [addL_no (by rw [add_s hc117 hc130 (by rw [hv9] at hc325; exact hc325)]; decide)]
  ·skip
   have hc130r := hc130
   refine WP_cond_t rfl ?_
   refine WP_seq ?_
   refine WP_region0 (by kernel_rfl) (fun _ => ?_)
   refine st (ov_assign (v := .int .i64 (16)) rfl ?_)
   refine st_nil ?_
   refine WP_ret ?_
   refine fin1 Try.results22 (show _ = (.int .i64 (16) : Value) from rfl) ?_
   have hS689 : Sep G W ((RefP b vl n L) :: (Blk b124 (((getE L (e.origin, e.seq)).getD default).cells v118).toArray 36) :: (RowE (α := Int) own 3 v118 (((getE L (e.origin, e.seq)).getD default).deps)) :: (Blk b13 (e.cells de0).toArray 36) :: Rs) w127 := hk6 _ _ hS129
   have hS690 : Sep G W ((Blk b #[.int .i64 ((n : Nat) : Int), vl] 78) :: (RowE (α := Ev) own 36 vl L) :: (Blk b124 (((getE L (e.origin, e.seq)).getD default).cells v118).toArray 36) :: (RowE (α := Int) own 3 v118 (((getE L (e.origin, e.seq)).getD default).deps)) :: (Blk b13 (e.cells de0).toArray 36) :: Rs) w127 := Sep.openStar hS689
   have hS691 : Sep G W ((RowE (α := Ev) own 36 vl L) :: Rs) w127 := hS690.sel 5 [1] (Nat.le_add_left _ _) rfl rfl
   refine ⟨L, ?_, ?_, hS691⟩
   · rw [add_t hc117 hc130]
   · rw [addL_no (by rw [add_t hc117 hc130]; decide)]
 ·skip
  have hc117r := hc117
  have hc117 := ndec_true hc117
  refine WP_cond_t rfl ?_
  refine WP_seq ?_
  refine WP_region0 (by kernel_rfl) (fun _ => ?_)
  refine st (ov_move (v := .int .i64 ((checkE e ((n : Nat) : Int)))) rfl ?_)
  refine st (ov_assign (v := .int .i64 ((checkE e ((n : Nat) : Int)))) rfl ?_)
  refine st_nil ?_
  refine WP_ret ?_
  refine fin1 Try.results22 (show _ = (.int .i64 ((checkE e ((n : Nat) : Int))) : Value) from rfl) ?_
  have hS692 : Sep G W ((RefP b vl n L) :: (Blk b13 (e.cells de0).toArray 36) :: Rs) w112 := hk6 _ _ hS115
  have hS693 : Sep G W ((Blk b #[.int .i64 ((n : Nat) : Int), vl] 78) :: (RowE (α := Ev) own 36 vl L) :: (Blk b13 (e.cells de0).toArray 36) :: Rs) w112 := Sep.openStar hS692
  have hS694 : Sep G W ((RowE (α := Ev) own 36 vl L) :: Rs) w112 := hS693.sel 3 [1] (Nat.le_add_left _ _) rfl rfl
  refine ⟨L, ?_, ?_, hS694⟩
  · rw [add_c hc117]
  · rw [addL_no (by rw [add_c hc117]; exact hc117)]

theorem D_rAddQ {G : Nat → Prop} {W w : World} {Rs : List HP} {b n : Nat} {vl : Value} {L : List Ev} {e : Ev} {de0 : Value} (hde0 : RdS W G de0 e.deps) (oe : e.Ok) (hS0 : Sep G W ((RefP b vl n L) :: Rs) w) (hG : Good n L) (hn : n ≤ 1000) (hL : L.length ≤ 1000000) : Ret Try.prog 22 [.pointer (some ⟨b, 0, none⟩), .agg (e.cells de0).toArray] w (fun r w' => r = (.int .i64 ((addE n L e)) : Value) ∧ Sep G W ((RowE (α := Ev) own 36 vl L) :: Rs) w') := by
  refine Ret.mono (D_rAddQ0 hde0 oe hS0 hG hn hL) ?_
  rintro r w' ⟨L1, h1, h2, h3⟩
  exact ⟨h1, h3⟩

end Go.Proofs.Ytmiihhbeclhaoaa
end
