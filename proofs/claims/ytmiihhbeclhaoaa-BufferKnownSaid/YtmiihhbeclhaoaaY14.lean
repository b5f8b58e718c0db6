/- Texts of this claim, part 14. -/
import Derived.Test.YtmiihhbeclhaoaaY13
set_option linter.unusedSimpArgs false
set_option linter.unusedVariables false
set_option linter.unusedSectionVars false
section
/- Steps of the proofs of this seat: part D10. -/
set_option maxRecDepth 8000
set_option maxHeartbeats 4000000
namespace Go.Proofs.Ytmiihhbeclhaoaa
open Go.Proofs Go.RowKit

def RBufO (b : Nat) (most : Int) (B : List Ev) : HP := Ex1 fun vl => Star [Blk b #[.int .i64 most, vl] 76, EvW vl 36 3 B]
section
variable {G : Nat → Prop} {W w : World} {As : List HP} {b : Nat} {most : Int} {B : List Ev}
theorem RBufO.open (h : Sep G W (RBufO b most B :: As) w) : ∃ vl, Sep G W (Blk b #[.int .i64 most, vl] 76 :: EvW vl 36 3 B :: As) w := by
  obtain ⟨vl, h⟩ := h.openEx
  exact ⟨vl, h.openStar⟩
theorem RBufO.close {vl : Value} (h : Sep G W (Blk b #[.int .i64 most, vl] 76 :: EvW vl 36 3 B :: As) w) : Sep G W (RBufO b most B :: As) w := Sep.closeEx (A := fun vl => Star [Blk b #[.int .i64 most, vl] 76, EvW vl 36 3 B]) vl (Sep.closeStar (Bs := [Blk b #[.int .i64 most, vl] 76, EvW vl 36 3 B]) h)
theorem RBufO.sh (h : (RBufO b most B).p W G) : ∃ vl, (Blk b #[.int .i64 most, vl] 76).p W G ∧ RdS W G vl B := by
  obtain ⟨vl, h⟩ := h
  exact ⟨vl, Star.at_ h (i := 0) rfl, EvW.rd (T := 36) (Star.at_ h (i := 1) rfl)⟩
end
theorem Kp {G : Nat → Prop} {W w : World} {Rs : List HP} {x : Int} (hx : InR x) (hS0 : Sep G W Rs w) : Ret Try.prog 20 [.int .i64 (x)] w (fun r w' => ∃ (b : Nat), r = (.pointer (some ⟨b, 0, none⟩) : Value) ∧ Sep G W ((RBufO b (max 0 (min x 256)) ([] : List Ev)) :: Rs) w') := by
 refine zp (args := [.int .i64 (x)]) Try.func20 rfl rfl ?_
 refine zc ?_
 refine za (by kernel_rfl) (fun _ => ?_)
 refine st (zd (v := .pointer none) rfl ?_)
 refine ze ?_
 refine zc ?_
 refine za (by kernel_rfl) (fun _ => ?_)
 refine st (zb (v := .int .i64 (x)) rfl ?_)
 refine st (Zw (k := .i64) (a := x) (b := 256) rfl rfl ?_)
 refine st (Wb (k := .i64) (a := 0) (b := min x 256) rfl rfl ?_)
 refine st (yP (parts' := [(0, .int .i64 (max 0 (min x 256)))]) (v := .agg #[.int .i64 (max 0 (min x 256)), (.slice none 0 0)]) rfl (by simp [Instr.build, Instr.fill, go_sem]) ?_)
 refine st (yg (v := .agg #[.int .i64 (max 0 (min x 256)), (.slice none 0 0)]) rfl ?_)
 intro w3 b2 hn1
 have hS4 := hS0.new hn1
 refine st (zd (v := .pointer (some ⟨b2, 0, none⟩)) rfl ?_)
 refine ze ?_
 refine zw ?_
 refine zL Try.results20 (show _ = (.pointer (some ⟨b2, 0, none⟩) : Value) from rfl) ?_
 have hS5 : Sep G W ((EvW (.slice none 0 0) 36 3 ([] : List Ev)) :: (Blk b2 #[.int .i64 (max 0 (min x 256)), (.slice none 0 0)] 76) :: Rs) w3 := hS4.evwNil 36 3
 have hS6 := hS5.mv1
 have hS7 : Sep G W ((RBufO b2 (max 0 (min x 256)) ([] : List Ev)) :: Rs) w3 := RBufO.close (most := (max 0 (min x 256))) (B := ([] : List Ev)) hS6
 refine ⟨b2, rfl, hS7⟩

theorem yS {d : Option Tmp} {ty : TypeId} {pos : String} {af : Array Edge} {g : Option (Nat × Bool)} {σ : Env} {w : World} {K : Value → World → Prop} {x : Operand} {b o : Nat} (hx : ev σ x = .pointer (some ⟨b, o, none⟩)) (h : K (.pointer (some ⟨b, o + 1, none⟩)) w) : opV Try.prog ⟨d, .fieldAddr 76 x 1, ty, pos, af, g⟩ σ w K := zR Try.underlying76 rfl rfl (fun w => ⟨0, Try.sizeOf22 w⟩) hx h
theorem VQ {G : Nat → Prop} {W w : World} {Rs : List HP} {b : Nat} {most : Int} {B : List Ev} (hb : (RBufO b most B).p W G) (hS0 : Sep G W Rs w) : Ret Try.prog 32 [.pointer (some ⟨b, 0, none⟩)] w (fun r w' => r = (.int .i64 ((B.length : Nat) : Int) : Value) ∧ Sep G W Rs w') := by
 refine zp (args := [.pointer (some ⟨b, 0, none⟩)]) Try.func32 rfl rfl ?_
 obtain ⟨vl1, hb2, hl3⟩ := RBufO.sh hb
 have hsm4 : B.length * 96 ≤ 140737488355328 := hl3.small
 refine zc ?_
 refine za (by kernel_rfl) (fun _ => ?_)
 refine st (zd (v := .int .i64 (0)) rfl ?_)
 refine ze ?_
 refine zc ?_
 refine za (by kernel_rfl) (fun _ => ?_)
 refine st (zb (v := .pointer (some ⟨b, 0, none⟩)) rfl ?_)
 refine st (zn (b := b) (o := 0) rfl ?_)
 refine st (yS rfl ?_)
 refine st (zg (v := vl1) Try.isAgg22 rfl (zf (hS0.gblk hb2) rfl) ?_)
 refine st (zJ (n := B.length) Try.underlying22 rfl hl3.sl ?_)
 refine st (zd (v := .int .i64 ((B.length : Nat) : Int)) rfl ?_)
 refine ze ?_
 refine zw ?_
 refine zL Try.results32 (show _ = (.int .i64 ((B.length : Nat) : Int) : Value) from rfl) ?_
 refine ⟨rfl, hS0⟩

theorem UO {G : Nat → Prop} {W w : World} {Rs : List HP} {b : Nat} {most : Int} {B : List Ev} (hS0 : Sep G W ((RBufO b most B) :: Rs) w) : Ret Try.prog 27 [.pointer (some ⟨b, 0, none⟩)] w (fun r w' => r = (.tuple #[] : Value) ∧ Sep G W ((RBufO b most ([] : List Ev)) :: Rs) w') := by
 refine zp (args := [.pointer (some ⟨b, 0, none⟩)]) Try.func27 rfl rfl ?_
 obtain ⟨vl1, hS2⟩ := RBufO.open hS0
 have hS2t : Sep G W ((Blk b #[.int .i64 (most), vl1] 76) :: (EvW vl1 36 3 B) :: Rs) w := hS2
 have hes3 : B.length * 96 ≤ 140737488355328 := (hS2t.evwSl (i := 1) rfl).2
 refine za (by kernel_rfl) (fun _ => ?_)
 refine st (zb (v := .pointer (some ⟨b, 0, none⟩)) rfl ?_)
 refine st (zn (b := b) (o := 0) rfl ?_)
 refine st (yS rfl ?_)
 refine stn (yd (v := (.slice none 0 0)) (c := [.int .i64 (most), vl1]) (c' := [.int .i64 (most), (.slice none 0 0)]) Try.sizeOf22 rfl rfl (hS2t.blk (i := 0) rfl) rfl rfl rfl ?_)
 intro w4 hp5
 have hS6 := hS2t.pt0 hp5
 refine ze ?_
 refine Up Try.results27 ?_
 have hS7 : Sep G W ((EvW (.slice none 0 0) 36 3 ([] : List Ev)) :: (Blk b #[.int .i64 (most), (.slice none 0 0)] 76) :: (EvW vl1 36 3 B) :: Rs) w4 := hS6.evwNil 36 3
 have hS8 := hS7.mv1
 have hS9 : Sep G W ((RBufO b most ([] : List Ev)) :: (EvW vl1 36 3 B) :: Rs) w4 := RBufO.close (most := most) (B := ([] : List Ev)) hS8
 have hS10 : Sep G W ((RBufO b most ([] : List Ev)) :: Rs) w4 := hS9.sel 2 [0] (Nat.le_add_left _ _) rfl rfl
 refine ⟨rfl, hS10⟩

def mkP (e : Ev) (d : Value) : EvP := if h : d.oneCell' = true then (e, ⟨d, h⟩) else default
theorem QX {e : Ev} {d : Value} (h : d.oneCell' = true) : mkP e d = (e, ⟨d, h⟩) := dif_pos h
theorem UA {e : Ev} {d : Value} (h : d.oneCell' = true) : e.cells d = (mkP e d).cells := by rw [QX h]; rfl
theorem Sep.evwSnoc {G : Nat → Prop} {W w : World} {As : List HP} {T Ti : TypeId} {v d : Value} {ps : List EvP} {B : List Ev} {e : Ev} (h : Sep G W (RowE (α := EvP) own T v (ps ++ [mkP e d]) :: RowE (α := Int) own Ti d e.deps :: StarD Ti ps :: As) w) (hp : ps.map (fun s : EvP => s.1) = B) (hok : ∀ s ∈ ps, s.1.Ok) (oe : e.Ok) : Sep G W (EvW v T Ti (B ++ [e]) :: As) w := by
  have h1 := (h.row (i := 1) rfl).1.one
  rw [QX h1] at h
  have h2 := Sep.starIns (p := ((e, ⟨d, h1⟩) : EvP)) (i := ps.length) (h.sel 3 [2, 1, 0] (Nat.le_add_left _ _) rfl rfl)
  rw [List.take_length, List.drop_length, List.append_nil] at h2
  refine Sep.evwOf (h2.sel 2 [1, 0] (Nat.le_add_left _ _) rfl rfl) (by rw [List.map_append, hp]; rfl) (fun s hs => ?_)
  rcases List.mem_append.1 hs with hs | hs
  · exact hok s hs
  · rw [List.mem_singleton.1 hs]; exact oe
theorem We {B : List Ev} {e : Ev} {k : Nat} (hk : k < B.length) (h : yC (B.getD k default) e = true) : yf B e = true := by
  unfold yf
  rw [List.any_eq_true]
  exact ⟨B.getD k default, by rw [zm _ hk]; exact List.getElem_mem hk, h⟩
theorem Qy {B : List Ev} {e : Ev} (h : ∀ i, i < B.length → yC (B.getD i default) e = false) : yf B e = false := by
  unfold yf
  rw [List.any_eq_false]
  intro x hx
  obtain ⟨i, hi, rfl⟩ := List.getElem_of_mem hx
  have := h i hi
  rw [zm _ hi] at this
  simpa using this
def xn (most : Int) (B : List Ev) (e : Ev) : List Ev := if ya most B e = true then B ++ [e] else B
theorem YC {most : Int} {B : List Ev} {e : Ev} (h : (decide (most ≤ ((B.length : Nat) : Int)) || yf B e) = true) : ya most B e = false ∧ B = xn most B e := by
  obtain ⟨h1, _⟩ := XM h
  exact ⟨h1, by unfold xn; rw [if_neg (by rw [h1]; decide)]⟩
theorem Wn {most : Int} {B : List Ev} {e : Ev} (h : (decide (most ≤ ((B.length : Nat) : Int)) || yf B e) = false) : ya most B e = true ∧ B ++ [e] = xn most B e := by
  obtain ⟨h1, _⟩ := Xb h
  exact ⟨h1, by unfold xn; rw [if_pos h1]⟩
theorem JB {d : Option Tmp} {ty : TypeId} {pos : String} {af : Array Edge} {g : Option (Nat × Bool)} {σ : Env} {w : World} {K : Value → World → Prop} {x : Operand} {b o : Nat} (hx : ev σ x = .pointer (some ⟨b, o, none⟩)) (h : K (.pointer (some ⟨b, o + 0, none⟩)) w) : opV Try.prog ⟨d, .fieldAddr 76 x 0, ty, pos, af, g⟩ σ w K := zR Try.underlying76 rfl rfl (fun w => ⟨0, Try.sizeOf3 w⟩) hx h
theorem KG {G : Nat → Prop} {W w : World} {Rs : List HP} {b : Nat} {most : Int} {B : List Ev} {e : Ev} {de0 : Value} (hde0 : RdS W G de0 e.deps) (oe : e.Ok) (hS0 : Sep G W ((RBufO b most B) :: Rs) w) (hmost : InR most) (hBl : B.length ≤ 1000000) : Ret Try.prog 24 [.pointer (some ⟨b, 0, none⟩), .agg (e.cells de0).toArray] w (fun r w' => ∃ (B1 : List Ev), r = (.bool ((ya most B e)) : Value) ∧ (B1 = xn most B e) ∧ Sep G W ((RBufO b most B1) :: Rs) w') := by
 have hde0s : _ * 8 ≤ _ := hde0.small
 refine zp (args := [.pointer (some ⟨b, 0, none⟩), .agg (e.cells de0).toArray]) Try.func24 rfl rfl ?_
 obtain ⟨vl1, hS2⟩ := RBufO.open hS0
 have hS2t : Sep G W ((Blk b #[.int .i64 (most), vl1] 76) :: (EvW vl1 36 3 B) :: Rs) w := hS2
 have hes3 : B.length * 96 ≤ 140737488355328 := (hS2t.evwSl (i := 1) rfl).2
 refine zc ?_
 refine za (by kernel_rfl) (fun _ => ?_)
 refine st (yg (v := .agg (e.cells de0).toArray) rfl ?_)
 intro w6 b5 hn4
 have hS7 := hS2t.new hn4
 refine st (zd (v := .bool false) rfl ?_)
 refine ze ?_
 refine zc ?_
 refine zc ?_
 have hS8 := hS7.mv2
 obtain ⟨G9, hA11, hB12, hS13, hk14⟩ := hS8.lend
 have hrd15 := EvW.rd hA11
 have hrd15s : _ * 96 ≤ _ := hrd15.small
 refine za (by kernel_rfl) (fun _ => ?_)
 refine st (zd (v := .int .i64 (0)) rfl ?_)
 refine ze ?_
 refine zt ?_
 refine zP (fun mq σ wq => ∃ (k : Nat) (ρ : Env), mq = B.length - k ∧ σ = zQ ρ [(0, .pointer (some ⟨b, 0, none⟩)), (3, .pointer (some ⟨b5, 0, none⟩)), (5, .int .i64 ((k : Nat) : Int))] ∧ (k ≤ B.length) ∧ (∀ i, i < k → yC (B.getD i default) e = false) ∧ Sep G9 w6 ((Blk b5 (e.cells de0).toArray 36) :: (Blk b #[.int .i64 (most), vl1] 76) :: Rs) wq) ⟨0, _, rfl, zh ⟨rfl, rfl, rfl, trivial⟩, Nat.zero_le _, (fun i h => absurd h (Nat.not_lt_zero i)), hS13⟩ ?_
 rintro m17 σ18 w16 ⟨k, ρl1, rfl, rfl, hkk, hm, hS19⟩
 refine zc ?_
 refine zc ?_
 refine za (by kernel_rfl) (fun _ => ?_)
 refine st (zb (v := .int .i64 ((k : Nat) : Int)) rfl ?_)
 refine st (zb (v := .pointer (some ⟨b, 0, none⟩)) rfl ?_)
 refine st (zn (b := b) (o := 0) rfl ?_)
 refine st (yS rfl ?_)
 refine st (zg (v := vl1) Try.isAgg22 rfl (zf (hS19.blk (i := 1) rfl) rfl) ?_)
 refine st (zJ (n := B.length) Try.underlying22 rfl hrd15.sl ?_)
 refine st (zH (k := .i64) (a := ((k : Nat) : Int)) (b := ((B.length : Nat) : Int)) rfl rfl ?_)
 refine ze ?_
 cases hc20 : decide (((k : Nat) : Int) < ((B.length : Nat) : Int))
 ·skip
  have hc20r := hc20
  have hc20 := of_decide_eq_false hc20
  refine zi rfl ?_
  refine zO ?_
  refine zF ?_
  refine zc ?_
  refine zc ?_
  have hS21 := hk14 _ _ hS19
  have hhn9 : yf B e = false := Qy (fun i hi => hm i (by omega))
  refine zM (WF [fun vals wq => Sep G W ((EvW vl1 36 3 B) :: (Blk b5 (e.cells de0).toArray 36) :: (Blk b #[.int .i64 (most), vl1] 76) :: Rs) wq]) (AF [Vl 0 (.pointer (some ⟨b, 0, none⟩)), Vl 1 (.pointer (some ⟨b, 0, none⟩)), Vl 2 (.pointer (some ⟨b, 1, none⟩)), Vl 3 (vl1), Vl 4 (.int .i64 ((B.length : Nat) : Int)), Vl 5 (.pointer (some ⟨b, 0, none⟩)), Vl 6 (.pointer (some ⟨b, 0, none⟩)), Vl 7 (.pointer (some ⟨b, 0, none⟩)), Vl 8 (.int .i64 (most)), Vl 9 (.bool (decide (most ≤ ((B.length : Nat) : Int))))]) [[], [0], [0, 1], [0, 1, 2], [0, 1, 2, 3], [], [5], [5, 6], [5, 6, 7], [0, 1, 2, 3, 4, 5, 6, 7, 8]] [] [(0, 0), (0, 0), (0, 0), (0, 0), (0, 0), (0, 0), (0, 0), (0, 0), (0, 0), (0, 0)] (by kernel_rfl) (by kernel_rfl) (by kernel_rfl) rfl (by kernel_rfl) (by kernel_rfl) (fun _ h1 h2 h3 h4 _ => hS21.same h1 h2 h3 h4) ?_ (yc ⟨dA, dA, dA, dA, dA, dA, dA, dA, dA, dA, trivial⟩) ⟨?_, ?_, ?_, ?_, ?_, ?_, ?_, ?_, ?_, ?_, trivial⟩ ?_
  ·intro k vals vals' w hv h
   match k, h with
   | 0, h => exact h
   | _ + 1, _ => trivial
  ·intro k95 vals w96 h99 h100 hW98 hA97
   refine obl rfl ?_
   exact zb (v := .pointer (some ⟨b, 0, none⟩)) rfl (fun vals' hv _ => ⟨rfl, hv⟩)
  ·intro k101 vals w102 h105 h106 hW104 hA103
   have e107 := hA103 0 (by decide)
   refine obl rfl ?_
   exact zn (b := b) (o := 0) e107 (fun vals' hv _ => ⟨rfl, hv⟩)
  ·intro k108 vals w109 h112 h113 hW111 hA110
   have e114 := hA110 1 (by decide)
   refine obl rfl ?_
   exact yS e114 (fun vals' hv _ => ⟨rfl, hv⟩)
  ·intro k115 vals w116 h119 h120 hW118 hA117
   obtain rfl : k115 = 0 := Nat.le_antisymm h120 h119
   have hS121 : Sep _ _ _ _ := hW118
   have e122 := hA117 2 (by decide)
   refine obl rfl ?_
   exact zg (v := vl1) Try.isAgg22 e122 (zf (hS121.blk (i := 2) rfl) rfl) (fun vals' hv _ => ⟨rfl, hv⟩)
  ·intro k123 vals w124 h127 h128 hW126 hA125
   obtain rfl : k123 = 0 := Nat.le_antisymm h128 h127
   have hS129 : Sep _ _ _ _ := hW126
   have e130 := hA125 3 (by decide)
   refine obl rfl ?_
   exact zJ (n := B.length) Try.underlying22 e130 (hS129.evwSl (i := 0) rfl).1 (fun vals' hv _ => ⟨rfl, hv⟩)
  ·intro k131 vals w132 h135 h136 hW134 hA133
   refine obl rfl ?_
   exact zb (v := .pointer (some ⟨b, 0, none⟩)) rfl (fun vals' hv _ => ⟨rfl, hv⟩)
  ·intro k137 vals w138 h141 h142 hW140 hA139
   have e143 := hA139 5 (by decide)
   refine obl rfl ?_
   exact zn (b := b) (o := 0) e143 (fun vals' hv _ => ⟨rfl, hv⟩)
  ·intro k144 vals w145 h148 h149 hW147 hA146
   have e150 := hA146 6 (by decide)
   refine obl rfl ?_
   exact JB e150 (fun vals' hv _ => ⟨rfl, hv⟩)
  ·intro k151 vals w152 h155 h156 hW154 hA153
   obtain rfl : k151 = 0 := Nat.le_antisymm h156 h155
   have hS157 : Sep _ _ _ _ := hW154
   have e158 := hA153 7 (by decide)
   refine obl rfl ?_
   exact zg (v := .int .i64 (most)) Try.isAgg3 e158 (zf (hS157.blk (i := 2) rfl) rfl) (fun vals' hv _ => ⟨rfl, hv⟩)
  ·intro k159 vals w160 h163 h164 hW162 hA161
   obtain rfl : k159 = 0 := Nat.le_antisymm h164 h163
   have hS165 : Sep _ _ _ _ := hW162
   have e166 := hA161 4 (by decide)
   have e167 := hA161 8 (by decide)
   refine obl rfl ?_
   exact xv (k := .i64) (a := ((B.length : Nat) : Int)) (b := most) e166 e167 (fun vals' hv _ => ⟨rfl, hv⟩)
  intro vals w168 hW169 hA170
  have hS171 : Sep _ _ _ _ := hW169
  have e172 := hA170 9 (by decide)
  refine yb (kv := [(0, .pointer (some ⟨b, 0, none⟩)), (3, .pointer (some ⟨b5, 0, none⟩)), (5, .int .i64 ((k : Nat) : Int)), (6, .int .i64 ((k : Nat) : Int)), (7, .pointer (some ⟨b, 0, none⟩)), (8, .pointer (some ⟨b, 0, none⟩)), (9, .pointer (some ⟨b, 1, none⟩)), (10, vl1), (11, .int .i64 ((B.length : Nat) : Int)), (12, .bool false), (35, .bool (decide (most ≤ ((B.length : Nat) : Int))))]) ⟨rfl, rfl, rfl, rfl, rfl, rfl, rfl, rfl, rfl, rfl, (by exact e172), trivial⟩ (fun ρw168 => ?_)
  refine ze ?_
  cases hc173 : decide (most ≤ ((B.length : Nat) : Int))
  ·skip
   have hc173r := hc173
   have hc173 := of_decide_eq_false hc173
   refine zi rfl ?_
   refine zo ?_
   refine zc ?_
   obtain ⟨ps, hp9, hok9, hS174⟩ := hS171.evwFlat
   have hpl9 : ps.length = B.length := by rw [← hp9, List.length_map]
   have hS175 : Sep G W ((RowE (α := EvP) own 36 vl1 ps) :: (StarD 3 ps) :: (Blk b5 (e.cells de0).toArray 36) :: (Blk b #[.int .i64 (most), vl1] 76) :: Rs) w168 := hS174
   have hr176 := hS175.row (i := 0) rfl
   have hr176s : _ * 96 ≤ _ := hr176.2
   refine zM ((fun pp0 pp1 pp2 pp3 => WF [fun vals wq => Sep G W (pp0 :: pp1 :: pp2 :: pp3 :: Rs) wq, fun vals wq => ∃ (v226 : Value), (vals 6 = (.agg (e.cells v226).toArray : Value)) ∧ Sep G W ((RowE (α := Int) own 3 v226 e.deps) :: pp0 :: pp1 :: pp2 :: pp3 :: Rs) wq, fun vals wq => ∃ (v226 : Value) (b239 : Nat), (vals 6 = (.agg (e.cells v226).toArray : Value)) ∧ (vals 7 = ((.slice (some ⟨b239, 0, none⟩) 1 1) : Value)) ∧ Sep G W ((Blk b239 (e.cells v226).toArray 36) :: (RowE (α := Int) own 3 v226 e.deps) :: pp0 :: pp1 :: pp2 :: pp3 :: Rs) wq, fun vals wq => ∃ (v226 : Value) (b239 : Nat) (v252 : Value), (vals 6 = (.agg (e.cells v226).toArray : Value)) ∧ (vals 7 = ((.slice (some ⟨b239, 0, none⟩) 1 1) : Value)) ∧ (vals 8 = (v252 : Value)) ∧ Sep G W ((RowE (α := EvP) own 36 v252 (ps ++ [(mkP e v226)])) :: (RowE (α := Int) own 3 v226 e.deps) :: pp1 :: pp2 :: pp3 :: Rs) wq, fun vals wq => ∃ (v226 : Value) (b239 : Nat) (v252 : Value), (vals 6 = (.agg (e.cells v226).toArray : Value)) ∧ (vals 7 = ((.slice (some ⟨b239, 0, none⟩) 1 1) : Value)) ∧ (vals 8 = (v252 : Value)) ∧ Sep G W ((RowE (α := EvP) own 36 v252 (ps ++ [(mkP e v226)])) :: (RowE (α := Int) own 3 v226 e.deps) :: pp1 :: pp2 :: (Blk b #[.int .i64 (most), v252] 76) :: Rs) wq]) (RowE (α := EvP) own 36 vl1 ps) (StarD 3 ps) (Blk b5 (e.cells de0).toArray 36) (Blk b #[.int .i64 (most), vl1] 76)) (AF [Vl 0 (.pointer (some ⟨b, 0, none⟩)), Vl 1 (.pointer (some ⟨b, 0, none⟩)), Vl 2 (.pointer (some ⟨b, 0, none⟩)), Vl 3 (.pointer (some ⟨b, 1, none⟩)), Vl 4 (vl1), Vl 5 (.agg (e.cells de0).toArray), fun _ => True, fun _ => True, fun _ => True, Vl 9 (.pointer (some ⟨b, 0, none⟩)), Vl 10 (.pointer (some ⟨b, 1, none⟩)), fun _ => True]) [[], [], [1], [1, 2], [1, 2, 3], [], [5], [5, 6], [1, 2, 3, 4, 5, 6, 7], [0, 1, 2, 3, 4, 5, 6, 7, 8], [0, 1, 2, 3, 4, 5, 6, 7, 8, 9], [0, 1, 2, 3, 4, 5, 6, 7, 8, 9, 10]] [6, 7, 8, 11] [(0, 3), (0, 2), (0, 2), (0, 2), (0, 2), (0, 0), (0, 0), (1, 1), (2, 2), (3, 3), (3, 3), (3, 3)] (by kernel_rfl) (by kernel_rfl) (by kernel_rfl) rfl (by kernel_rfl) (by kernel_rfl) (fun _ h1 h2 h3 h4 _ => hS175.same h1 h2 h3 h4) ?_ (yc ⟨dA, dA, dA, dA, dA, dA, dT, dT, dT, dA, dA, dT, trivial⟩) ⟨?_, ?_, ?_, ?_, ?_, ?_, ?_, ?_, ?_, ?_, ?_, ?_, trivial⟩ ?_
   ·intro k vals vals' w hv h
    have e : ∀ j ∈ ([6, 7, 8, 11] : List Nat), vals' j = vals j := hv
    match k, h with
    | 0, h => exact h
    | 1, h => exact (by simpa only [WF, List.getElem?_cons_zero, List.getElem?_cons_succ, e 6 (by decide)] using h)
    | 2, h => exact (by simpa only [WF, List.getElem?_cons_zero, List.getElem?_cons_succ, e 6 (by decide), e 7 (by decide)] using h)
    | 3, h => exact (by simpa only [WF, List.getElem?_cons_zero, List.getElem?_cons_succ, e 6 (by decide), e 7 (by decide), e 8 (by decide)] using h)
    | 4, h => exact (by simpa only [WF, List.getElem?_cons_zero, List.getElem?_cons_succ, e 6 (by decide), e 7 (by decide), e 8 (by decide)] using h)
    | _ + 5, _ => trivial
   ·intro k285 vals w286 h289 h290 hW288 hA287
    refine obl rfl ?_
    exact zb (v := .pointer (some ⟨b, 0, none⟩)) rfl (fun vals' hv _ => ⟨rfl, hv⟩)
   ·intro k291 vals w292 h295 h296 hW294 hA293
    refine obl rfl ?_
    exact zb (v := .pointer (some ⟨b, 0, none⟩)) rfl (fun vals' hv _ => ⟨rfl, hv⟩)
   ·intro k297 vals w298 h301 h302 hW300 hA299
    have e303 := hA299 1 (by decide)
    refine obl rfl ?_
    exact zn (b := b) (o := 0) e303 (fun vals' hv _ => ⟨rfl, hv⟩)
   ·intro k304 vals w305 h308 h309 hW307 hA306
    have e310 := hA306 2 (by decide)
    refine obl rfl ?_
    exact yS e310 (fun vals' hv _ => ⟨rfl, hv⟩)
   ·intro k311 vals w312 h315 h316 hW314 hA313
    have hkk : k311 = 0 ∨ k311 = 1 ∨ k311 = 2 := by have h1 : 0 ≤ k311 := h315; have h2 : k311 ≤ 2 := h316; omega
    rcases hkk with rfl | rfl | rfl
    ·skip
     have hS317 : Sep _ _ _ _ := hW314
     have e318 := hA313 3 (by decide)
     refine obl rfl ?_
     exact zg (v := vl1) Try.isAgg22 e318 (zf (hS317.blk (i := 3) rfl) rfl) (fun vals' hv _ => ⟨rfl, hv⟩)
    ·skip
     obtain ⟨v226, he230, hS319⟩ := hW314
     have e320 := hA313 3 (by decide)
     refine obl rfl ?_
     exact zg (v := vl1) Try.isAgg22 e320 (zf (hS319.blk (i := 4) rfl) rfl) (fun vals' hv _ => ⟨rfl, hv⟩)
    ·skip
     obtain ⟨v226, b239, he230, he242, hS321⟩ := hW314
     have e322 := hA313 3 (by decide)
     refine obl rfl ?_
     exact zg (v := vl1) Try.isAgg22 e322 (zf (hS321.blk (i := 5) rfl) rfl) (fun vals' hv _ => ⟨rfl, hv⟩)
   ·intro k323 vals w324 h327 h328 hW326 hA325
    obtain rfl : k323 = 0 := Nat.le_antisymm h328 h327
    have hS329 : Sep _ _ _ _ := hW326
    refine obl rfl ?_
    exact zr (k := 10) Try.isAgg36 Try.sizeOf36 rfl rfl (CellsAt.all (hS329.blk (i := 2) rfl)) (fun vals' hv _ => ⟨rfl, hv⟩)
   ·intro k218 vals w219 h222 h223 hW221 hA220
    obtain rfl : k218 = 0 := Nat.le_antisymm h223 h222
    have hS224 : Sep _ _ _ _ := hW221
    have e225 := hA220 5 (by decide)
    refine obl rfl ?_
    refine (zj (f := 23) (vals := [.agg (e.cells de0).toArray]) (cap := []) rfl (xc ⟨e225, trivial⟩) Try.call23 (yJ (e := e) hde0 oe hS224) ?_)
    rintro _ w227 ⟨v226, rfl, hS228⟩
    have hr229 := hS228.row (i := 0) rfl
    have hr229s : _ * 8 ≤ _ := hr229.2
    intro vals' hv hv'
    refine ⟨?_, trivial⟩
    show ∃ (v226 : Value), (vals' 6 = (.agg (e.cells v226).toArray : Value)) ∧ Sep G W ((RowE (α := Int) own 3 v226 e.deps) :: (RowE (α := EvP) own 36 vl1 ps) :: (StarD 3 ps) :: (Blk b5 (e.cells de0).toArray 36) :: (Blk b #[.int .i64 (most), vl1] 76) :: Rs) w227
    exact ⟨v226, hv, hS228⟩
   ·intro k231 vals w232 h235 h236 hW234 hA233
    obtain rfl : k231 = 1 := Nat.le_antisymm h236 h235
    obtain ⟨v226, he230, hS237⟩ := hW234
    refine obl rfl ?_
    refine (zD (k := 10) (parts' := [(0, .agg (e.cells v226).toArray)]) (c := (e.cells v226).toArray) Try.underlying22 Try.sizeOf36 Try.zeroValue36 (by decide) (Ve ⟨rfl, he230, trivial⟩) (by kernel_rfl) ?_)
    intro w240 b239 hn238
    have hS241 := hS237.new hn238
    intro vals' hv hv'
    refine ⟨?_, trivial⟩
    show ∃ (v226 : Value) (b239 : Nat), (vals' 6 = (.agg (e.cells v226).toArray : Value)) ∧ (vals' 7 = ((.slice (some ⟨b239, 0, none⟩) 1 1) : Value)) ∧ Sep G W ((Blk b239 (e.cells v226).toArray 36) :: (RowE (α := Int) own 3 v226 e.deps) :: (RowE (α := EvP) own 36 vl1 ps) :: (StarD 3 ps) :: (Blk b5 (e.cells de0).toArray 36) :: (Blk b #[.int .i64 (most), vl1] 76) :: Rs) w240
    exact ⟨v226, b239, (by rw [hv' 6 (by decide)]; exact he230), hv, hS241⟩
   ·intro k243 vals w244 h247 h248 hW246 hA245
    obtain rfl : k243 = 2 := Nat.le_antisymm h248 h247
    obtain ⟨v226, b239, he230, he242, hS249⟩ := hW246
    have e250 := hA245 4 (by decide)
    refine obl rfl ?_
    have hbk254 := hS249.blk (i := 0) rfl
    have hS255 : Sep G W ((RowE (α := EvP) own 36 vl1 ps) :: (RowE (α := Int) own 3 v226 e.deps) :: (StarD 3 ps) :: (Blk b5 (e.cells de0).toArray 36) :: (Blk b #[.int .i64 (most), vl1] 76) :: Rs) w244 := hS249.sel 6 [2, 1, 3, 4, 5] (Nat.le_add_left _ _) rfl rfl
    have hS256 : Sep G W ((RowE (α := EvP) own 36 vl1 ps) :: Emp :: (RowE (α := Int) own 3 v226 e.deps) :: (StarD 3 ps) :: (Blk b5 (e.cells de0).toArray 36) :: (Blk b #[.int .i64 (most), vl1] 76) :: Rs) w244 := hS255.emp1
    refine (zZ (src := own) (bytes := 96) (x1 := (mkP e v226)) hS256 xZ e250 he242 hbk254 (fun _ _ _ => (show _ from UA (hS249.row (i := 1) rfl).1.one)) (by first | omega | (simp only [List.length_append, List.length_cons, List.length_nil, List.length_take, List.length_drop]; omega)) rfl ?_)
    intro v252 w251 hS253
    have hr257 := hS253.row (i := 0) rfl
    have hr257s : _ * 96 ≤ _ := hr257.2
    intro vals' hv hv'
    refine ⟨?_, trivial⟩
    show ∃ (v226 : Value) (b239 : Nat) (v252 : Value), (vals' 6 = (.agg (e.cells v226).toArray : Value)) ∧ (vals' 7 = ((.slice (some ⟨b239, 0, none⟩) 1 1) : Value)) ∧ (vals' 8 = (v252 : Value)) ∧ Sep G W ((RowE (α := EvP) own 36 v252 (ps ++ [(mkP e v226)])) :: (RowE (α := Int) own 3 v226 e.deps) :: (StarD 3 ps) :: (Blk b5 (e.cells de0).toArray 36) :: (Blk b #[.int .i64 (most), vl1] 76) :: Rs) w251
    exact ⟨v226, b239, v252, (by rw [hv' 6 (by decide)]; exact he230), (by rw [hv' 7 (by decide)]; exact he242), hv, hS253⟩
   ·intro k330 vals w331 h334 h335 hW333 hA332
    have e336 := hA332 0 (by decide)
    refine obl rfl ?_
    exact zn (b := b) (o := 0) e336 (fun vals' hv _ => ⟨rfl, hv⟩)
   ·intro k337 vals w338 h341 h342 hW340 hA339
    have e343 := hA339 9 (by decide)
    refine obl rfl ?_
    exact yS e343 (fun vals' hv _ => ⟨rfl, hv⟩)
   ·intro k273 vals w274 h277 h278 hW276 hA275
    obtain rfl : k273 = 3 := Nat.le_antisymm h278 h277
    obtain ⟨v226, b239, v252, he230, he242, he258, hS279⟩ := hW276
    have e280 := hA275 10 (by decide)
    refine obl rfl ?_
    have hr283 := hS279.row (i := 0) rfl
    have hr283s : _ * 96 ≤ _ := hr283.2
    refine (yd (v := v252) (c := [.int .i64 (most), vl1]) (c' := [.int .i64 (most), v252]) Try.sizeOf22 e280 he258 (hS279.blk (i := 4) rfl) hr283.1.one rfl rfl ?_)
    intro w281 hp282
    have hS284 := hS279.pt4 hp282
    intro vals' hv hv'
    refine ⟨?_, trivial⟩
    show ∃ (v226 : Value) (b239 : Nat) (v252 : Value), (vals' 6 = (.agg (e.cells v226).toArray : Value)) ∧ (vals' 7 = ((.slice (some ⟨b239, 0, none⟩) 1 1) : Value)) ∧ (vals' 8 = (v252 : Value)) ∧ Sep G W ((RowE (α := EvP) own 36 v252 (ps ++ [(mkP e v226)])) :: (RowE (α := Int) own 3 v226 e.deps) :: (StarD 3 ps) :: (Blk b5 (e.cells de0).toArray 36) :: (Blk b #[.int .i64 (most), v252] 76) :: Rs) w281
    exact ⟨v226, b239, v252, (by rw [hv' 6 (by decide)]; exact he230), (by rw [hv' 7 (by decide)]; exact he242), (by rw [hv' 8 (by decide)]; exact he258), hS284⟩
   intro vals w344 hW345 hA346
   obtain ⟨v226, b239, v252, he230, he242, he258, hS347⟩ := hW345
   refine yb (kv := [(0, .pointer (some ⟨b, 0, none⟩)), (3, .pointer (some ⟨b5, 0, none⟩)), (5, .int .i64 ((k : Nat) : Int)), (6, .int .i64 ((k : Nat) : Int)), (7, .pointer (some ⟨b, 0, none⟩)), (8, .pointer (some ⟨b, 0, none⟩)), (9, .pointer (some ⟨b, 1, none⟩)), (10, vl1), (11, .int .i64 ((B.length : Nat) : Int)), (12, .bool false), (35, .bool false)]) ⟨rfl, rfl, rfl, rfl, rfl, rfl, rfl, rfl, rfl, rfl, rfl, trivial⟩ (fun ρw344 => ?_)
   refine ze ?_
   refine zc ?_
   have hS348 : Sep G W ((EvW v252 36 3 (B ++ [e])) :: (Blk b5 (e.cells de0).toArray 36) :: (Blk b #[.int .i64 (most), v252] 76) :: Rs) w344 := Sep.evwSnoc hS347 hp9 hok9 oe
   refine za (by kernel_rfl) (fun _ => ?_)
   refine st (zd (v := .bool true) rfl ?_)
   refine ze ?_
   refine zw ?_
   refine zL Try.results24 (show _ = (.bool true : Value) from rfl) ?_
   have hS349 := hS348.mv2
   have hS350 : Sep G W ((RBufO b most (B ++ [e])) :: (Blk b5 (e.cells de0).toArray 36) :: Rs) w344 := RBufO.close (most := most) (B := (B ++ [e])) hS349
   have hS351 : Sep G W ((RBufO b most (B ++ [e])) :: Rs) w344 := hS350.sel 2 [0] (Nat.le_add_left _ _) rfl rfl
   refine ⟨(B ++ [e]), ?_, ?_, hS351⟩
   · rw [(Wn (by rw [hc173r, hhn9]; rfl)).1]
   · exact (Wn (by rw [hc173r, hhn9]; rfl)).2
  ·skip
   have hc173r := hc173
   have hc173 := of_decide_eq_true hc173
   refine zk rfl ?_
   refine zc ?_
   refine za (by kernel_rfl) (fun _ => ?_)
   refine st (zd (v := .bool false) rfl ?_)
   refine ze ?_
   refine zw ?_
   refine zL Try.results24 (show _ = (.bool false : Value) from rfl) ?_
   have hS352 := hS171.mv2
   have hS353 : Sep G W ((RBufO b most B) :: (Blk b5 (e.cells de0).toArray 36) :: Rs) w168 := RBufO.close (most := most) (B := B) hS352
   have hS354 : Sep G W ((RBufO b most B) :: Rs) w168 := hS353.sel 2 [0] (Nat.le_add_left _ _) rfl rfl
   refine ⟨B, ?_, ?_, hS354⟩
   · rw [(YC (by first | (rw [We (by omega) hc173r]; exact Bool.or_true _) | (rw [hc173r]; rfl))).1]
   · exact (YC (by first | (rw [We (by omega) hc173r]; exact Bool.or_true _) | (rw [hc173r]; rfl))).2
 ·skip
  have hc20r := hc20
  have hc20 := of_decide_eq_true hc20
  refine zk rfl ?_
  refine zo ?_
  refine zc ?_
  refine zt ?_
  refine zc ?_
  refine zM (WF [fun vals wq => Sep G9 w6 ((Blk b5 (e.cells de0).toArray 36) :: (Blk b #[.int .i64 (most), vl1] 76) :: Rs) wq]) (AF [Vl 0 (.pointer (some ⟨b, 0, none⟩)), Vl 1 (.pointer (some ⟨b, 0, none⟩)), Vl 2 (.pointer (some ⟨b, 1, none⟩)), Vl 3 (vl1), Vl 4 (.int .i64 ((k : Nat) : Int)), Vl 5 (.pointer (some ⟨sb vl1, so vl1 + k * 10, none⟩)), Vl 6 (.pointer (some ⟨sb vl1, so vl1 + k * 10, none⟩)), Vl 7 (.agg #[.int .i64 ((B.getD k default).origin), .int .i64 ((B.getD k default).seq)]), Vl 8 (.pointer (some ⟨b5, 0, none⟩)), Vl 9 (.agg #[.int .i64 (e.origin), .int .i64 (e.seq)]), Vl 10 (.bool (decide ((B.getD k default).origin = e.origin ∧ (B.getD k default).seq = e.seq)))]) [[], [0], [0, 1], [0, 1, 2], [], [0, 1, 2, 3, 4], [0, 1, 2, 3, 4, 5], [0, 1, 2, 3, 4, 5, 6], [], [8], [0, 1, 2, 3, 4, 5, 6, 7, 8, 9]] [] [(0, 0), (0, 0), (0, 0), (0, 0), (0, 0), (0, 0), (0, 0), (0, 0), (0, 0), (0, 0), (0, 0)] (by kernel_rfl) (by kernel_rfl) (by kernel_rfl) rfl (by kernel_rfl) (by kernel_rfl) (fun _ h1 h2 h3 h4 _ => hS19.same h1 h2 h3 h4) ?_ (yc ⟨dA, dA, dA, dA, dA, dA, dA, dA, dA, dA, dA, trivial⟩) ⟨?_, ?_, ?_, ?_, ?_, ?_, ?_, ?_, ?_, ?_, ?_, trivial⟩ ?_
  ·intro k vals vals' w hv h
   match k, h with
   | 0, h => exact h
   | _ + 1, _ => trivial
  ·intro k441 vals w442 h445 h446 hW444 hA443
   refine obl rfl ?_
   exact zb (v := .pointer (some ⟨b, 0, none⟩)) rfl (fun vals' hv _ => ⟨rfl, hv⟩)
  ·intro k447 vals w448 h451 h452 hW450 hA449
   have e453 := hA449 0 (by decide)
   refine obl rfl ?_
   exact zn (b := b) (o := 0) e453 (fun vals' hv _ => ⟨rfl, hv⟩)
  ·intro k454 vals w455 h458 h459 hW457 hA456
   have e460 := hA456 1 (by decide)
   refine obl rfl ?_
   exact yS e460 (fun vals' hv _ => ⟨rfl, hv⟩)
  ·intro k461 vals w462 h465 h466 hW464 hA463
   obtain rfl : k461 = 0 := Nat.le_antisymm h466 h465
   have hS467 : Sep _ _ _ _ := hW464
   have e468 := hA463 2 (by decide)
   refine obl rfl ?_
   exact zg (v := vl1) Try.isAgg22 e468 (zf (hS467.blk (i := 1) rfl) rfl) (fun vals' hv _ => ⟨rfl, hv⟩)
  ·intro k469 vals w470 h473 h474 hW472 hA471
   refine obl rfl ?_
   exact zb (v := .int .i64 ((k : Nat) : Int)) rfl (fun vals' hv _ => ⟨rfl, hv⟩)
  ·intro k475 vals w476 h479 h480 hW478 hA477
   obtain rfl : k475 = 0 := Nat.le_antisymm h480 h479
   have hS481 : Sep _ _ _ _ := hW478
   have e482 := hA477 3 (by decide)
   have e483 := hA477 4 (by decide)
   refine obl rfl ?_
   have hi484 : k < B.length := (by first | omega | (simp only [lens]; omega))
   exact zl (k := 10) (i := k) Try.underlying22 Try.sizeOf36 e482 hrd15.sl e483 hi484 (fun vals' hv _ => ⟨rfl, hv⟩)
  ·intro k485 vals w486 h489 h490 hW488 hA487
   have e491 := hA487 5 (by decide)
   refine obl rfl ?_
   exact zS e491 (fun vals' hv _ => ⟨rfl, hv⟩)
  ·intro k492 vals w493 h496 h497 hW495 hA494
   obtain rfl : k492 = 0 := Nat.le_antisymm h497 h496
   have hS498 : Sep _ _ _ _ := hW495
   have e499 := hA494 6 (by decide)
   refine obl rfl ?_
   have hi501 : k < B.length := (by first | omega | (simp only [lens]; omega))
   obtain ⟨hce500, hde500_0, hoke500⟩ := hrd15.ev hi501
   rw [← zm default hi501] at hce500 hde500_0 hoke500
   have hsm502 : ((B.getD k default).deps).length * 8 ≤ 140737488355328 := hde500_0.small
   have hcw503 := hS498.cells hce500 (hrd15.foot (ne_of_lt hi501))
   exact zr (k := 2) (cs := [.int .i64 ((B.getD k default).origin), .int .i64 ((B.getD k default).seq)]) Try.isAgg33 Try.sizeOf33 rfl e499 (CellsAt.sub hcw503 0 (cs2 := [.int .i64 ((B.getD k default).origin), .int .i64 ((B.getD k default).seq)]) rfl) (fun vals' hv _ => ⟨rfl, hv⟩)
  ·intro k504 vals w505 h508 h509 hW507 hA506
   refine obl rfl ?_
   exact zS rfl (fun vals' hv _ => ⟨rfl, hv⟩)
  ·intro k510 vals w511 h514 h515 hW513 hA512
   obtain rfl : k510 = 0 := Nat.le_antisymm h515 h514
   have hS516 : Sep _ _ _ _ := hW513
   have e517 := hA512 8 (by decide)
   refine obl rfl ?_
   exact zr (k := 2) (cs := [.int .i64 (e.origin), .int .i64 (e.seq)]) Try.isAgg33 Try.sizeOf33 rfl e517 (CellsAt.sub (CellsAt.all (hS516.blk (i := 0) rfl)) 0 (cs2 := [.int .i64 (e.origin), .int .i64 (e.seq)]) rfl) (fun vals' hv _ => ⟨rfl, hv⟩)
  ·intro k518 vals w519 h522 h523 hW521 hA520
   obtain rfl : k518 = 0 := Nat.le_antisymm h523 h522
   have hS524 : Sep _ _ _ _ := hW521
   have e525 := hA520 7 (by decide)
   have e526 := hA520 9 (by decide)
   refine obl rfl ?_
   exact ZU (e := decide ((B.getD k default).origin = e.origin ∧ (B.getD k default).seq = e.seq)) (xs := #[.int .i64 ((B.getD k default).origin), .int .i64 ((B.getD k default).seq)]) (ys := #[.int .i64 (e.origin), .int .i64 (e.seq)]) Wy e525 e526 (fun vals' hv _ => ⟨rfl, hv⟩)
  intro vals w527 hW528 hA529
  have hS530 : Sep _ _ _ _ := hW528
  have e531 := hA529 10 (by decide)
  refine yb (kv := [(0, .pointer (some ⟨b, 0, none⟩)), (3, .pointer (some ⟨b5, 0, none⟩)), (5, .int .i64 ((k : Nat) : Int)), (6, .int .i64 ((k : Nat) : Int)), (7, .pointer (some ⟨b, 0, none⟩)), (8, .pointer (some ⟨b, 0, none⟩)), (9, .pointer (some ⟨b, 1, none⟩)), (10, vl1), (11, .int .i64 ((B.length : Nat) : Int)), (12, .bool true), (25, .bool (decide ((B.getD k default).origin = e.origin ∧ (B.getD k default).seq = e.seq)))]) ⟨rfl, rfl, rfl, rfl, rfl, rfl, rfl, rfl, rfl, rfl, (by exact e531), trivial⟩ (fun ρw527 => ?_)
  refine ze ?_
  cases hc532 : decide ((B.getD k default).origin = e.origin ∧ (B.getD k default).seq = e.seq)
  ·skip
   have hc532r := hc532
   have hc532 := of_decide_eq_false hc532
   refine zi rfl ?_
   refine zo ?_
   refine za (by kernel_rfl) (fun _ => ?_)
   refine st (zb (v := .int .i64 ((k : Nat) : Int)) rfl ?_)
   have hr533 : InR ((k + 1 : Nat) : Int) := by first | omega | (simp only [lens]; omega)
   refine st (zB (r := ((k + 1 : Nat) : Int)) (k := .i64) (a := ((k : Nat) : Int)) (b := 1) rfl rfl (by rw [show (((k : Nat) : Int) + 1 : Int) = ((k + 1 : Nat) : Int) by first | omega | (simp only [lens]; omega)]; exact zy hr533) ?_)
   refine st (zd (v := .int .i64 ((k + 1 : Nat) : Int)) rfl ?_)
   refine ze ?_
   exact ⟨_, by omega, k + 1, _, rfl, zh ⟨rfl, rfl, rfl, trivial⟩, by omega, (yE hm hc532r), hS530⟩
  ·skip
   have hc532r := hc532
   have hc532 := of_decide_eq_true hc532
   refine zk rfl ?_
   refine zc ?_
   refine za (by kernel_rfl) (fun _ => ?_)
   refine st (zd (v := .bool false) rfl ?_)
   refine ze ?_
   refine zw ?_
   refine zL Try.results24 (show _ = (.bool false : Value) from rfl) ?_
   have hS534 := hk14 _ _ hS530
   have hS535 := hS534.mv2
   have hS536 : Sep G W ((RBufO b most B) :: (Blk b5 (e.cells de0).toArray 36) :: Rs) w527 := RBufO.close (most := most) (B := B) hS535
   have hS537 : Sep G W ((RBufO b most B) :: Rs) w527 := hS536.sel 2 [0] (Nat.le_add_left _ _) rfl rfl
   refine ⟨B, ?_, ?_, hS537⟩
   · rw [(YC (by first | (rw [We (by omega) hc532r]; exact Bool.or_true _) | (rw [hc532r]; rfl))).1]
   · exact (YC (by first | (rw [We (by omega) hc532r]; exact Bool.or_true _) | (rw [hc532r]; rfl))).2

theorem QJ {G : Nat → Prop} {W w : World} {Rs : List HP} {b : Nat} {most : Int} {B : List Ev} {e : Ev} {de0 : Value} (hde0 : RdS W G de0 e.deps) (oe : e.Ok) (hS0 : Sep G W ((RBufO b most B) :: Rs) w) (hmost : InR most) (hBl : B.length ≤ 1000000) : Ret Try.prog 24 [.pointer (some ⟨b, 0, none⟩), .agg (e.cells de0).toArray] w (fun r w' => r = (.bool ((ya most B e)) : Value) ∧ Sep G W ((RBufO b most (xn most B e)) :: Rs) w') := by
  refine Ret.mono (KG hde0 oe hS0 hmost hBl) ?_
  rintro r w' ⟨B1, h1, h2, h3⟩
  subst h2
  exact ⟨h1, h3⟩

end Go.Proofs.Ytmiihhbeclhaoaa
end

section
/- Steps of the proofs of this seat: part D11. -/
set_option maxRecDepth 8000
set_option maxHeartbeats 4000000
namespace Go.Proofs.Ytmiihhbeclhaoaa
open Go.Proofs Go.RowKit

theorem Kr {α : Type} [Inhabited α] {l : List α} {i : Nat} (h : i < l.length) : (l.take i).eraseIdx i = l.take i := List.eraseIdx_of_length_le (by rw [List.length_take]; omega)
theorem Uv {ps : List EvP} {i : Nat} (hi : i < ps.length) : (ps.take (i + 1)).eraseIdx i = (ps.take i).eraseIdx i := by
  rw [Kr hi, List.eraseIdx_eq_take_drop_succ, List.take_take, List.drop_take, Nat.min_eq_left (Nat.le_succ i), Nat.sub_self, List.take_zero, List.append_nil]
theorem KM {ps : List EvP} {i k : Nat} (hk : k < ps.length) (h : k ≠ i) : (ps.take (k + 1)).eraseIdx i = (ps.take k).eraseIdx i ++ [ps.getD k default] := by
  have h1 : ps.take (k + 1) = ps.take k ++ [ps.getD k default] := xY hk
  rw [h1]
  rcases Nat.lt_or_ge k i with h2 | h2
  · rw [List.eraseIdx_of_length_le (by simp; omega), List.eraseIdx_of_length_le (by simp; omega)]
  · rw [List.eraseIdx_append_of_lt_length (by rw [List.length_take]; omega)]
theorem Ql {ps : List EvP} {i k : Nat} : ((ps.take k).eraseIdx i).length ≤ k := by
  have h1 : ((ps.take k).eraseIdx i).length ≤ (ps.take k).length := List.length_eraseIdx_le ..
  rw [List.length_take] at h1; omega
theorem Kk {G : Nat → Prop} {W w : World} {Rs : List HP} {b : Nat} {most : Int} {B : List Ev} {i : Nat} (hi : i < B.length) (hS0 : Sep G W ((RBufO b most B) :: Rs) w) (hmost : InR most) : Ret Try.prog 59 [.pointer (some ⟨b, 0, none⟩), .int .i64 ((i : Nat) : Int)] w (fun r w' => r = (.tuple #[] : Value) ∧ Sep G W ((RBufO b most (B.eraseIdx i)) :: Rs) w') := by
 refine zp (args := [.pointer (some ⟨b, 0, none⟩), .int .i64 ((i : Nat) : Int)]) Try.func59 rfl rfl ?_
 obtain ⟨vl1, hS2⟩ := RBufO.open hS0
 have hS2t : Sep G W ((Blk b #[.int .i64 (most), vl1] 76) :: (EvW vl1 36 3 B) :: Rs) w := hS2
 have hes3 : B.length * 96 ≤ 140737488355328 := (hS2t.evwSl (i := 1) rfl).2
 refine zc ?_
 refine za (by kernel_rfl) (fun _ => ?_)
 refine st (zd (v := (.slice none 0 0)) rfl ?_)
 refine ze ?_
 refine zc ?_
 refine zc ?_
 have hS4 := hS2t.mv1
 obtain ⟨ps, hp9, hok9, hS5⟩ := hS4.evwFlat
 have hpl9 : ps.length = B.length := by rw [← hp9, List.length_map]
 have hS6 : Sep G W ((RowE (α := EvP) own 36 vl1 ps) :: (StarD 3 ps) :: (Blk b #[.int .i64 (most), vl1] 76) :: Rs) w := hS5
 have hr7 := hS6.row (i := 0) rfl
 have hr7s : _ * 96 ≤ _ := hr7.2
 refine za (by kernel_rfl) (fun _ => ?_)
 refine st (zd (v := .int .i64 (0)) rfl ?_)
 refine ze ?_
 refine zt ?_
 have hS8 : Sep G W ((RowE (α := EvP) own 36 (.slice none 0 0) ([] : List EvP)) :: (RowE (α := EvP) own 36 vl1 ps) :: (StarD 3 ps) :: (Blk b #[.int .i64 (most), vl1] 76) :: Rs) w := hS6.rowNil own 36
 refine zP (fun mq σ wq => ∃ (k : Nat) (vo : Value) (ρ : Env), mq = B.length - k ∧ σ = zQ ρ [(0, .pointer (some ⟨b, 0, none⟩)), (1, .int .i64 ((i : Nat) : Int)), (5, .int .i64 ((k : Nat) : Int)), (4, vo)] ∧ (k ≤ B.length) ∧ Sep G W ((RowE (α := EvP) own 36 vo ((ps.take k).eraseIdx i)) :: (RowE (α := EvP) own 36 vl1 ps) :: (StarD 3 ps) :: (Blk b #[.int .i64 (most), vl1] 76) :: Rs) wq) ⟨0, (.slice none 0 0), _, rfl, zh ⟨rfl, rfl, rfl, rfl, trivial⟩, Nat.zero_le _, hS8⟩ ?_
 rintro m10 σ11 w9 ⟨k, vo, ρl1, rfl, rfl, hkk, hS12⟩
 have hr13 := hS12.row (i := 0) rfl
 have hr13s : _ * 96 ≤ _ := hr13.2
 have hdl9 := Ql (ps := ps) (i := i) (k := k)
 refine zc ?_
 refine zc ?_
 refine za (by kernel_rfl) (fun _ => ?_)
 refine st (zb (v := .int .i64 ((k : Nat) : Int)) rfl ?_)
 refine st (zb (v := .pointer (some ⟨b, 0, none⟩)) rfl ?_)
 refine st (zn (b := b) (o := 0) rfl ?_)
 refine st (yS rfl ?_)
 refine st (zg (v := vl1) Try.isAgg22 rfl (zf (hS12.blk (i := 3) rfl) rfl) ?_)
 refine st (zJ (n := ps.length) Try.underlying22 rfl hr7.1 ?_)
 refine st (zH (k := .i64) (a := ((k : Nat) : Int)) (b := ((ps.length : Nat) : Int)) rfl rfl ?_)
 refine ze ?_
 cases hc14 : decide (((k : Nat) : Int) < ((ps.length : Nat) : Int))
 ·skip
  have hc14r := hc14
  have hc14 := of_decide_eq_false hc14
  refine zi rfl ?_
  refine zO ?_
  refine zF ?_
  have hS15 : Sep G W ((RowE (α := EvP) own 36 vo ((ps.take k).eraseIdx i)) :: (StarD 3 ps) :: (RowE (α := EvP) own 36 vl1 ps) :: (Blk b #[.int .i64 (most), vl1] 76) :: Rs) w9 := hS12.sel 4 [0, 2, 1, 3] (Nat.le_add_left _ _) rfl rfl
  have hk9 : (ps.take k).eraseIdx i = ps.eraseIdx i := by rw [List.take_of_length_le (by omega)]
  rw [hk9] at hS15
  have hS16 := (Sep.starOut (i := i) (hS15.sel 2 [1, 0] (Nat.le_add_left _ _) rfl rfl) (by omega)).sel 3 [2, 1] (Nat.le_add_left _ _) rfl rfl
  have hS17 : Sep G W ((EvW vo 36 3 (B.eraseIdx i)) :: (RowE (α := EvP) own 36 vl1 ps) :: (Blk b #[.int .i64 (most), vl1] 76) :: Rs) w9 := Sep.evwOf hS16 (XK hp9) (fun s hs => hok9 s (Xz hs))
  refine za (by kernel_rfl) (fun _ => ?_)
  refine st (zb (v := .pointer (some ⟨b, 0, none⟩)) rfl ?_)
  refine st (zb (v := vo) rfl ?_)
  refine st (zn (b := b) (o := 0) rfl ?_)
  refine st (yS rfl ?_)
  refine stn (yd (v := vo) (c := [.int .i64 (most), vl1]) (c' := [.int .i64 (most), vo]) Try.sizeOf22 rfl rfl (hS17.blk (i := 2) rfl) (hS17.evwSl (i := 0) rfl).1.one rfl rfl ?_)
  intro w18 hp19
  have hS20 := hS17.pt2 hp19
  refine ze ?_
  refine Up Try.results59 ?_
  have hS21 := hS20.mv2
  have hS22 : Sep G W ((RBufO b most (B.eraseIdx i)) :: (RowE (α := EvP) own 36 vl1 ps) :: Rs) w18 := RBufO.close (most := most) (B := (B.eraseIdx i)) hS21
  have hS23 : Sep G W ((RBufO b most (B.eraseIdx i)) :: Rs) w18 := hS22.sel 2 [0] (Nat.le_add_left _ _) rfl rfl
  refine ⟨rfl, hS23⟩
 ·skip
  have hc14r := hc14
  have hc14 := of_decide_eq_true hc14
  refine zk rfl ?_
  refine zo ?_
  refine zc ?_
  refine zt ?_
  refine zc ?_
  refine za (by kernel_rfl) (fun _ => ?_)
  refine st (zb (v := .int .i64 ((k : Nat) : Int)) rfl ?_)
  refine st (zb (v := .int .i64 ((i : Nat) : Int)) rfl ?_)
  refine st (yH (k := .i64) (a := ((k : Nat) : Int)) (b := ((i : Nat) : Int)) rfl rfl ?_)
  refine ze ?_
  cases hc24 : !decide (((k : Nat) : Int) = ((i : Nat) : Int))
  ·skip
   have hc24r := hc24
   have hc24 := yh hc24
   refine zi rfl ?_
   refine zo ?_
   refine za (by kernel_rfl) (fun _ => ?_)
   refine st (zb (v := .int .i64 ((k : Nat) : Int)) rfl ?_)
   have hr25 : InR ((k + 1 : Nat) : Int) := by first | omega | (simp only [lens]; omega)
   refine st (zB (r := ((k + 1 : Nat) : Int)) (k := .i64) (a := ((k : Nat) : Int)) (b := 1) rfl rfl (by rw [show (((k : Nat) : Int) + 1 : Int) = ((k + 1 : Nat) : Int) by first | omega | (simp only [lens]; omega)]; exact zy hr25) ?_)
   refine st (zd (v := .int .i64 ((k + 1 : Nat) : Int)) rfl ?_)
   refine ze ?_
   have hL26 : ((ps.take (k + 1)).eraseIdx i) = ((ps.take k).eraseIdx i) := (by rw [show k = i by omega]; exact Uv (by omega))
   rw [← hL26] at hS12
   exact ⟨_, by omega, k + 1, vo, _, rfl, zh ⟨rfl, rfl, rfl, rfl, trivial⟩, by omega, hS12⟩
  ·skip
   have hc24r := hc24
   have hc24 := yx hc24
   refine zk rfl ?_
   refine za (by kernel_rfl) (fun _ => ?_)
   refine st (zb (v := vo) rfl ?_)
   refine st (zb (v := .pointer (some ⟨b, 0, none⟩)) rfl ?_)
   refine st (zn (b := b) (o := 0) rfl ?_)
   refine st (yS rfl ?_)
   refine st (zg (v := vl1) Try.isAgg22 rfl (zf (hS12.blk (i := 3) rfl) rfl) ?_)
   refine st (zb (v := .int .i64 ((k : Nat) : Int)) rfl ?_)
   have hi27 : k < ps.length := (by first | omega | (simp only [lens]; omega))
   refine st (zl (k := 10) (i := k) Try.underlying22 Try.sizeOf36 rfl hr7.1 rfl hi27 ?_)
   have hi29 : k < ps.length := (by first | omega | (simp only [lens]; omega))
   obtain ⟨_, _, hce28, rfl⟩ := hS12.rowAt (i := 1) (j := k) rfl hi29
   rw [← zm default hi29] at hce28
   have hce28 : CellsAt _ _ _ ((ps.getD k default).1.cells (ps.getD k default).2.1) := hce28
   refine st (zr (k := 10) Try.isAgg36 Try.sizeOf36 rfl rfl hce28 ?_)
   refine st (zD (k := 10) (parts' := [(0, .agg ((ps.getD k default).1.cells (ps.getD k default).2.1).toArray)]) (c := ((ps.getD k default).1.cells (ps.getD k default).2.1).toArray) Try.underlying22 Try.sizeOf36 Try.zeroValue36 (by decide) rfl (by kernel_rfl) ?_)
   intro w32 b31 hn30
   have hS33 := hS12.new hn30
   have hbk37 := hS33.blk (i := 0) rfl
   have hS38 : Sep G W ((RowE (α := EvP) own 36 vo ((ps.take k).eraseIdx i)) :: (RowE (α := EvP) own 36 vl1 ps) :: (StarD 3 ps) :: (Blk b #[.int .i64 (most), vl1] 76) :: Rs) w32 := hS33.sel 5 [1, 2, 3, 4] (Nat.le_add_left _ _) rfl rfl
   have hS39 : Sep G W ((RowE (α := EvP) own 36 vo ((ps.take k).eraseIdx i)) :: Emp :: (RowE (α := EvP) own 36 vl1 ps) :: (StarD 3 ps) :: (Blk b #[.int .i64 (most), vl1] 76) :: Rs) w32 := hS38.emp1
   refine st (zZ (src := own) (bytes := 96) (x1 := (ps.getD k default)) hS39 xZ rfl rfl hbk37 (fun _ _ _ => (show _ from rfl)) (by first | omega | (simp only [List.length_append, List.length_cons, List.length_nil, List.length_take, List.length_drop]; omega)) rfl ?_)
   intro v35 w34 hS36
   have hr40 := hS36.row (i := 0) rfl
   have hr40s : _ * 96 ≤ _ := hr40.2
   refine st (zd (v := v35) rfl ?_)
   refine ze ?_
   refine za (by kernel_rfl) (fun _ => ?_)
   refine st (zb (v := .int .i64 ((k : Nat) : Int)) rfl ?_)
   have hr41 : InR ((k + 1 : Nat) : Int) := by first | omega | (simp only [lens]; omega)
   refine st (zB (r := ((k + 1 : Nat) : Int)) (k := .i64) (a := ((k : Nat) : Int)) (b := 1) rfl rfl (by rw [show (((k : Nat) : Int) + 1 : Int) = ((k + 1 : Nat) : Int) by first | omega | (simp only [lens]; omega)]; exact zy hr41) ?_)
   refine st (zd (v := .int .i64 ((k + 1 : Nat) : Int)) rfl ?_)
   refine ze ?_
   have hL42 : ((ps.take (k + 1)).eraseIdx i) = ((ps.take k).eraseIdx i) ++ [(ps.getD k default)] := (KM (by omega) (by omega))
   rw [← hL42] at hS36
   exact ⟨_, by omega, k + 1, v35, _, rfl, zh ⟨rfl, rfl, rfl, rfl, trivial⟩, by omega, hS36⟩

end Go.Proofs.Ytmiihhbeclhaoaa
end

section
/- Steps of the proofs of this seat: part D12. -/
set_option maxRecDepth 8000
set_option maxHeartbeats 4000000
namespace Go.Proofs.Ytmiihhbeclhaoaa
open Go.Proofs Go.RowKit

def RefP (b : Nat) (vl : Value) (n : Nat) (L : List Ev) : HP := Star [Blk b #[.int .i64 ((n : Nat) : Int), vl] 78, RowE (α := Ev) own 36 vl L]
theorem RefP.sh {G : Nat → Prop} {W : World} {b n : Nat} {vl : Value} {L : List Ev} (h : (RefP b vl n L).p W G) : (RefS b n L).p W G := ⟨vl, h⟩
theorem QE {G : Nat → Prop} {W w : World} {Rs : List HP} {b n : Nat} {vl : Value} {L : List Ev} {e : Ev} {de0 : Value} (hde0 : RdS W G de0 e.deps) (oe : e.Ok) (hS0 : Sep G W ((RefP b vl n L) :: Rs) w) (hG : Good n L) (hn : n ≤ 1000) (hL : L.length ≤ 1000000) : Ret Try.prog 22 [.pointer (some ⟨b, 0, none⟩), .agg (e.cells de0).toArray] w (fun r w' => ∃ (L1 : List Ev), r = (.int .i64 ((zU n L e)) : Value) ∧ (L1 = addL n L e) ∧ Sep G W ((RowE (α := Ev) own 36 vl L) :: Rs) w') := by
 have hde0s : _ * 8 ≤ _ := hde0.small
 refine zp (args := [.pointer (some ⟨b, 0, none⟩), .agg (e.cells de0).toArray]) Try.func22 rfl rfl ?_
 refine zc ?_
 obtain ⟨G1, hA3, hB4, hS5, hk6⟩ := hS0.lend
 have hA7 := RefP.sh hA3
 obtain ⟨vl8, hb9, hl10⟩ := RefS.sh hA7
 have hsm11 : L.length * 96 ≤ 140737488355328 := hl10.small
 have hvl9 : (zz n L).length = n := xQ
 refine za (by kernel_rfl) (fun _ => ?_)
 refine st (yg (v := .agg (e.cells de0).toArray) rfl ?_)
 intro w14 b13 hn12
 have hS15 := hS5.new hn12
 refine st (zd (v := .int .i64 (0)) rfl ?_)
 refine ze ?_
 refine zc ?_
 refine zM ((fun pp0 => WF [fun vals wq => Sep G1 w (pp0 :: Rs) wq, fun vals wq => (vals 5 = (.int .i64 ((zI e ((n : Nat) : Int))) : Value)) ∧ Sep G1 w (pp0 :: Rs) wq]) (Blk b13 (e.cells de0).toArray 36)) (AF [Vl 0 (.agg (e.cells de0).toArray), Vl 1 (.pointer (some ⟨b, 0, none⟩)), Vl 2 (.pointer (some ⟨b, 0, none⟩)), Vl 3 (.pointer (some ⟨b, 0, none⟩)), Vl 4 (.int .i64 ((n : Nat) : Int)), fun _ => True, Vl 6 (.int .i64 ((zI e ((n : Nat) : Int))))]) [[], [], [1], [1, 2], [1, 2, 3], [0, 1, 2, 3, 4], [0, 1, 2, 3, 4, 5]] [5] [(0, 0), (0, 0), (0, 0), (0, 0), (0, 0), (0, 0), (1, 1)] (by kernel_rfl) (by kernel_rfl) (by kernel_rfl) rfl (by kernel_rfl) (by kernel_rfl) (fun _ h1 h2 h3 h4 _ => hS15.same h1 h2 h3 h4) ?_ (yc ⟨dA, dA, dA, dA, dA, dT, dA, trivial⟩) ⟨?_, ?_, ?_, ?_, ?_, ?_, ?_, trivial⟩ ?_
 ·intro k vals vals' w hv h
  have e : ∀ j ∈ ([5] : List Nat), vals' j = vals j := hv
  match k, h with
  | 0, h => exact h
  | 1, h => exact (by simpa only [WF, List.getElem?_cons_zero, List.getElem?_cons_succ, e 5 (by decide)] using h)
  | _ + 2, _ => trivial
 ·intro k70 vals w71 h74 h75 hW73 hA72
  obtain rfl : k70 = 0 := Nat.le_antisymm h75 h74
  have hS76 : Sep _ _ _ _ := hW73
  refine obl rfl ?_
  exact zr (k := 10) Try.isAgg36 Try.sizeOf36 rfl rfl (CellsAt.all (hS76.blk (i := 0) rfl)) (fun vals' hv _ => ⟨rfl, hv⟩)
 ·intro k77 vals w78 h81 h82 hW80 hA79
  refine obl rfl ?_
  exact zb (v := .pointer (some ⟨b, 0, none⟩)) rfl (fun vals' hv _ => ⟨rfl, hv⟩)
 ·intro k83 vals w84 h87 h88 hW86 hA85
  have e89 := hA85 1 (by decide)
  refine obl rfl ?_
  exact zn (b := b) (o := 0) e89 (fun vals' hv _ => ⟨rfl, hv⟩)
 ·intro k90 vals w91 h94 h95 hW93 hA92
  have e96 := hA92 2 (by decide)
  refine obl rfl ?_
  exact Zc e96 (fun vals' hv _ => ⟨rfl, hv⟩)
 ·intro k97 vals w98 h101 h102 hW100 hA99
  obtain rfl : k97 = 0 := Nat.le_antisymm h102 h101
  have hS103 : Sep _ _ _ _ := hW100
  have e104 := hA99 3 (by decide)
  refine obl rfl ?_
  exact zg (v := .int .i64 ((n : Nat) : Int)) Try.isAgg3 e104 (zf (hS103.gblk hb9) rfl) (fun vals' hv _ => ⟨rfl, hv⟩)
 ·intro k51 vals w52 h55 h56 hW54 hA53
  obtain rfl : k51 = 0 := Nat.le_antisymm h56 h55
  have hS57 : Sep _ _ _ _ := hW54
  have e58 := hA53 0 (by decide)
  have e59 := hA53 4 (by decide)
  refine obl rfl ?_
  refine (zj (f := 52) (vals := [.agg (e.cells de0).toArray, .int .i64 ((n : Nat) : Int)]) (cap := []) rfl (xc ⟨e58, e59, trivial⟩) Try.call52 (WI (e := e) (n := n) (RdS.base hde0 hB4) oe (by first | omega | (refine ⟨?_, ?_⟩ <;> omega)) hS57) ?_)
  rintro _ w60 ⟨rfl, hS61⟩
  intro vals' hv hv'
  refine ⟨?_, trivial⟩
  show (vals' 5 = (.int .i64 ((zI e ((n : Nat) : Int))) : Value)) ∧ Sep G1 w ((Blk b13 (e.cells de0).toArray 36) :: Rs) w60
  exact ⟨hv, hS61⟩
 ·intro k105 vals w106 h109 h110 hW108 hA107
  obtain rfl : k105 = 1 := Nat.le_antisymm h110 h109
  obtain ⟨he62, hS111⟩ := hW108
  refine obl rfl ?_
  exact zd (v := .int .i64 ((zI e ((n : Nat) : Int)))) he62 (fun vals' hv _ => ⟨rfl, hv⟩)
 intro vals w112 hW113 hA114
 obtain ⟨he62, hS115⟩ := hW113
 have e116 := hA114 6 (by decide)
 refine yb (kv := [(0, .pointer (some ⟨b, 0, none⟩)), (1, .agg (e.cells de0).toArray), (3, .pointer (some ⟨b13, 0, none⟩)), (4, .int .i64 (0)), (5, .int .i64 ((zI e ((n : Nat) : Int))))]) ⟨rfl, rfl, rfl, rfl, (by exact e116), trivial⟩ (fun ρw112 => ?_)
 refine ze ?_
 refine zc ?_
 refine zc ?_
 refine za (by kernel_rfl) (fun _ => ?_)
 refine st (zb (v := .int .i64 ((zI e ((n : Nat) : Int)))) rfl ?_)
 refine st (yH (k := .i64) (a := (zI e ((n : Nat) : Int))) (b := 0) rfl rfl ?_)
 refine ze ?_
 cases hc117 : !decide ((zI e ((n : Nat) : Int)) = 0)
 ·skip
  have hc117r := hc117
  have hc117 := yh hc117
  obtain ⟨⟨ho9, ho9'⟩, ⟨hs9, hl9⟩, hd9, hq9⟩ := yY hc117
  have hv9 : (zz n L).getD e.origin.toNat 0 = ((xE L e.origin.toNat : Nat) : Int) := ZI (by omega)
  have hcl9 := YF (L := L) (o := e.origin.toNat)
  refine zi rfl ?_
  refine zo ?_
  refine zc ?_
  refine za (by kernel_rfl) (fun _ => ?_)
  refine st (zb (v := .pointer (some ⟨b, 0, none⟩)) rfl ?_)
  refine st (zS rfl ?_)
  refine st (zr (k := 2) (cs := [.int .i64 (e.origin), .int .i64 (e.seq)]) Try.isAgg33 Try.sizeOf33 rfl rfl (CellsAt.sub (CellsAt.all (hS115.blk (i := 0) rfl)) 0 (cs2 := [.int .i64 (e.origin), .int .i64 (e.seq)]) rfl) ?_)
  refine st (zj (f := 53) (vals := [.pointer (some ⟨b, 0, none⟩), .agg #[.int .i64 (e.origin), .int .i64 (e.seq)]]) (cap := []) rfl rfl Try.call53 (XW  hA7 oe.origin oe.seq hS115) ?_)
  rintro _ w120 ⟨v118, rfl, hgo119, hS121⟩
  have hr122 := hS121.row (i := 0) rfl
  have hr122s : _ * 8 ≤ _ := hr122.2
  refine st (zb (v := .tuple #[.agg (((zq L (e.origin, e.seq)).getD default).cells v118).toArray, .bool (zq L (e.origin, e.seq)).isSome]) rfl ?_)
  refine st (zV (vs := [.agg (((zq L (e.origin, e.seq)).getD default).cells v118).toArray, .bool ((zq L (e.origin, e.seq)).isSome)]) (i := 0) (v := .agg (((zq L (e.origin, e.seq)).getD default).cells v118).toArray) rfl rfl ?_)
  refine st (zV (vs := [.agg (((zq L (e.origin, e.seq)).getD default).cells v118).toArray, .bool ((zq L (e.origin, e.seq)).isSome)]) (i := 1) (v := .bool ((zq L (e.origin, e.seq)).isSome)) rfl rfl ?_)
  refine st (ye Try.zeroValue36 ?_)
  intro w125 b124 hn123
  have hS126 := hS121.new hn123
  refine stn (zY (v := .agg (((zq L (e.origin, e.seq)).getD default).cells v118).toArray) (c' := (((zq L (e.origin, e.seq)).getD default).cells v118).toArray) Try.sizeOf36 rfl rfl (hS126.blk (i := 0) rfl) (yU ⟨rfl, rfl, rfl, hr122.1.one, rfl, rfl, rfl, rfl, rfl, rfl, trivial⟩) (Nat.le_of_ble_eq_true rfl) rfl ?_)
  intro w127 hp128
  have hS129 := hS126.pt0 hp128
  refine st (zd (v := .bool ((zq L (e.origin, e.seq)).isSome)) rfl ?_)
  refine ze ?_
  refine zc ?_
  refine zc ?_
  refine za (by kernel_rfl) (fun _ => ?_)
  refine st (zb (v := .bool ((zq L (e.origin, e.seq)).isSome)) rfl ?_)
  refine ze ?_
  cases hc130 : (zq L (e.origin, e.seq)).isSome
  ·skip
   have hc130r := hc130
   refine zi rfl ?_
   refine zo ?_
   refine zc ?_
   refine zc ?_
   refine zM ((fun TT pp0 => WF [fun vals wq => Sep G1 w (pp0 :: TT) wq, fun vals wq => ∃ (v166 : Value), (vals 4 = (v166 : Value)) ∧ Sep G1 w ((RowE (α := Int) own 3 v166 (zz n L)) :: pp0 :: TT) wq]) ((RowE (α := Int) own 3 v118 (((zq L (e.origin, e.seq)).getD default).deps)) :: (Blk b13 (e.cells de0).toArray 36) :: Rs) (Blk b124 (((zq L (e.origin, e.seq)).getD default).cells v118).toArray 36)) (AF [Vl 0 (.pointer (some ⟨b13, 0, none⟩)), Vl 1 (.pointer (some ⟨b13, 1, none⟩)), Vl 2 (.int .i64 (e.seq)), Vl 3 (.pointer (some ⟨b, 0, none⟩)), fun _ => True, Vl 5 (.pointer (some ⟨b13, 0, none⟩)), Vl 6 (.pointer (some ⟨b13, 0, none⟩)), Vl 7 (.int .i64 (e.origin)), fun vals => ∀ (v166 : Value), vals 4 = (v166 : Value) → vals 8 = (.pointer (some ⟨sb v166, so v166 + e.origin.toNat * 1, none⟩) : Value), Vl 9 (.int .i64 (((zz n L).getD e.origin.toNat 0))), Vl 10 (.int .i64 (((zz n L).getD e.origin.toNat 0) + 1)), Vl 11 (.bool (!decide (e.seq = (((zz n L).getD e.origin.toNat 0) + 1))))]) [[], [0], [0, 1], [], [3], [], [5], [5, 6], [3, 4, 5, 6, 7], [3, 4, 5, 6, 7, 8], [3, 4, 5, 6, 7, 8, 9], [0, 1, 2, 3, 4, 5, 6, 7, 8, 9, 10]] [4] [(0, 1), (0, 1), (0, 1), (0, 0), (0, 0), (0, 1), (0, 1), (0, 1), (1, 1), (1, 1), (1, 1), (1, 1)] (by kernel_rfl) (by kernel_rfl) (by kernel_rfl) rfl (by kernel_rfl) (by kernel_rfl) (fun _ h1 h2 h3 h4 _ => hS129.same h1 h2 h3 h4) ?_ (yc ⟨dA, dA, dA, dA, dT, dA, dA, dA, fun vals vals' hv h => fun v166 hq0 => (hv 8 (.inl rfl)).trans (h v166 ((hv 4 (.inr (by decide))).symm.trans hq0)), dA, dA, dA, trivial⟩) ⟨?_, ?_, ?_, ?_, ?_, ?_, ?_, ?_, ?_, ?_, ?_, ?_, trivial⟩ ?_
   ·intro k vals vals' w hv h
    have e : ∀ j ∈ ([4] : List Nat), vals' j = vals j := hv
    match k, h with
    | 0, h => exact h
    | 1, h => exact (by simpa only [WF, List.getElem?_cons_zero, List.getElem?_cons_succ, e 4 (by decide)] using h)
    | _ + 2, _ => trivial
   ·intro k230 vals w231 h234 h235 hW233 hA232
    refine obl rfl ?_
    exact zS rfl (fun vals' hv _ => ⟨rfl, hv⟩)
   ·intro k236 vals w237 h240 h241 hW239 hA238
    have e242 := hA238 0 (by decide)
    refine obl rfl ?_
    exact xg e242 (fun vals' hv _ => ⟨rfl, hv⟩)
   ·intro k243 vals w244 h247 h248 hW246 hA245
    have hkk : k243 = 0 ∨ k243 = 1 := by have h1 : 0 ≤ k243 := h247; have h2 : k243 ≤ 1 := h248; omega
    rcases hkk with rfl | rfl
    ·skip
     have hS249 : Sep _ _ _ _ := hW246
     have e250 := hA245 1 (by decide)
     refine obl rfl ?_
     exact zg (v := .int .i64 (e.seq)) Try.isAgg3 e250 (zf (hS249.blk (i := 2) rfl) rfl) (fun vals' hv _ => ⟨rfl, hv⟩)
    ·skip
     obtain ⟨v166, he170, hS251⟩ := hW246
     have e252 := hA245 1 (by decide)
     refine obl rfl ?_
     exact zg (v := .int .i64 (e.seq)) Try.isAgg3 e252 (zf (hS251.blk (i := 3) rfl) rfl) (fun vals' hv _ => ⟨rfl, hv⟩)
   ·intro k253 vals w254 h257 h258 hW256 hA255
    refine obl rfl ?_
    exact zb (v := .pointer (some ⟨b, 0, none⟩)) rfl (fun vals' hv _ => ⟨rfl, hv⟩)
   ·intro k158 vals w159 h162 h163 hW161 hA160
    obtain rfl : k158 = 0 := Nat.le_antisymm h163 h162
    have hS164 : Sep _ _ _ _ := hW161
    have e165 := hA160 3 (by decide)
    refine obl rfl ?_
    refine (zj (f := 54) (vals := [.pointer (some ⟨b, 0, none⟩)]) (cap := []) rfl (xc ⟨e165, trivial⟩) Try.call54 (Kl  hA7 hS164 (hG) (by first | omega | (simp only [lens]; omega))) ?_)
    rintro v166 w167 ⟨_, rfl, hS168⟩
    have hr169 := hS168.row (i := 0) rfl
    have hr169s : _ * 8 ≤ _ := hr169.2
    intro vals' hv hv'
    refine ⟨?_, trivial⟩
    show ∃ (v166 : Value), (vals' 4 = (v166 : Value)) ∧ Sep G1 w ((RowE (α := Int) own 3 v166 (zz n L)) :: (Blk b124 (((zq L (e.origin, e.seq)).getD default).cells v118).toArray 36) :: (RowE (α := Int) own 3 v118 (((zq L (e.origin, e.seq)).getD default).deps)) :: (Blk b13 (e.cells de0).toArray 36) :: Rs) w167
    exact ⟨v166, hv, hS168⟩
   ·intro k259 vals w260 h263 h264 hW262 hA261
    refine obl rfl ?_
    exact zS rfl (fun vals' hv _ => ⟨rfl, hv⟩)
   ·intro k265 vals w266 h269 h270 hW268 hA267
    have e271 := hA267 5 (by decide)
    refine obl rfl ?_
    exact yM e271 (fun vals' hv _ => ⟨rfl, hv⟩)
   ·intro k272 vals w273 h276 h277 hW275 hA274
    have hkk : k272 = 0 ∨ k272 = 1 := by have h1 : 0 ≤ k272 := h276; have h2 : k272 ≤ 1 := h277; omega
    rcases hkk with rfl | rfl
    ·skip
     have hS278 : Sep _ _ _ _ := hW275
     have e279 := hA274 6 (by decide)
     refine obl rfl ?_
     exact zg (v := .int .i64 (e.origin)) Try.isAgg3 e279 (zf (hS278.blk (i := 2) rfl) rfl) (fun vals' hv _ => ⟨rfl, hv⟩)
    ·skip
     obtain ⟨v166, he170, hS280⟩ := hW275
     have e281 := hA274 6 (by decide)
     refine obl rfl ?_
     exact zg (v := .int .i64 (e.origin)) Try.isAgg3 e281 (zf (hS280.blk (i := 3) rfl) rfl) (fun vals' hv _ => ⟨rfl, hv⟩)
   ·intro k282 vals w283 h286 h287 hW285 hA284
    obtain rfl : k282 = 1 := Nat.le_antisymm h287 h286
    obtain ⟨v166, he170, hS288⟩ := hW285
    have e289 := hA284 7 (by decide)
    refine obl rfl ?_
    have hi290 : e.origin.toNat < (zz n L).length := (by first | omega | (simp only [lens]; omega))
    have hr291 := hS288.row (i := 0) rfl
    have hr291s : _ * 8 ≤ _ := hr291.2
    refine yv (k := 1) (i := e.origin) Try.underlying34 Try.sizeOf3 he170 hr291.1 e289 ⟨by omega, by omega⟩ (fun vals' hv hv' => ⟨rfl, ?_⟩)
    intro v166q hq0
    rw [hv' 4 (by decide)] at hq0; cases he170.symm.trans hq0
    exact hv
   ·intro k292 vals w293 h296 h297 hW295 hA294
    obtain rfl : k292 = 1 := Nat.le_antisymm h297 h296
    obtain ⟨v166, he170, hS298⟩ := hW295
    have e299 : vals 8 = (.pointer (some ⟨sb v166, so v166 + e.origin.toNat * 1, none⟩) : Value) := hA294 8 (by decide) v166 he170
    refine obl rfl ?_
    have hi301 : e.origin.toNat < (zz n L).length := (by first | omega | (simp only [lens]; omega))
    obtain ⟨_, _, hce300, rfl, hxe300⟩ := hS298.rowAt (i := 0) (j := e.origin.toNat) rfl hi301
    rw [← zm 0 hi301] at hce300 hxe300
    exact zg (v := .int .i64 (((zz n L).getD e.origin.toNat 0))) Try.isAgg3 e299 (hce300.get (j := 0) rfl) (fun vals' hv _ => ⟨rfl, hv⟩)
   ·intro k302 vals w303 h306 h307 hW305 hA304
    obtain rfl : k302 = 1 := Nat.le_antisymm h307 h306
    obtain ⟨v166, he170, hS308⟩ := hW305
    have e309 := hA304 9 (by decide)
    refine obl rfl ?_
    have hr310 : InR (((zz n L).getD e.origin.toNat 0) + 1) := by omega
    exact zB (r := ((zz n L).getD e.origin.toNat 0) + 1) (k := .i64) (a := ((zz n L).getD e.origin.toNat 0)) (b := 1) e309 rfl (zy hr310) (fun vals' hv _ => ⟨rfl, hv⟩)
   ·intro k311 vals w312 h315 h316 hW314 hA313
    obtain rfl : k311 = 1 := Nat.le_antisymm h316 h315
    obtain ⟨v166, he170, hS317⟩ := hW314
    have e318 := hA313 2 (by decide)
    have e319 := hA313 10 (by decide)
    refine obl rfl ?_
    exact yH (k := .i64) (a := e.seq) (b := ((zz n L).getD e.origin.toNat 0) + 1) e318 e319 (fun vals' hv _ => ⟨rfl, hv⟩)
   intro vals w320 hW321 hA322
   obtain ⟨v166, he170, hS323⟩ := hW321
   have e324 := hA322 11 (by decide)
   refine yb (kv := [(0, .pointer (some ⟨b, 0, none⟩)), (1, .agg (e.cells de0).toArray), (3, .pointer (some ⟨b13, 0, none⟩)), (4, .int .i64 (0)), (5, .int .i64 ((zI e ((n : Nat) : Int)))), (18, .int .i64 ((zI e ((n : Nat) : Int)))), (19, .bool false), (22, .pointer (some ⟨b, 0, none⟩)), (23, .pointer (some ⟨b13, 0, none⟩)), (24, .agg #[.int .i64 (e.origin), .int .i64 (e.seq)]), (6, .pointer (some ⟨b124, 0, none⟩)), (28, .bool false), (40, .bool (!decide (e.seq = (((zz n L).getD e.origin.toNat 0) + 1))))]) ⟨rfl, rfl, rfl, rfl, rfl, rfl, rfl, rfl, rfl, rfl, rfl, rfl, (by exact e324), trivial⟩ (fun ρw320 => ?_)
   refine ze ?_
   cases hc325 : !decide (e.seq = (((zz n L).getD e.origin.toNat 0) + 1))
   ·skip
    have hc325r := hc325
    have hc325 := yh hc325
    refine zi rfl ?_
    refine zo ?_
    refine zc ?_
    refine zc ?_
    refine za (by kernel_rfl) (fun _ => ?_)
    refine st (zd (v := .int .i64 (0)) rfl ?_)
    refine ze ?_
    refine zt ?_
    refine zP (fun mq σ wq => ∃ (k : Nat) (ρ : Env), mq = n - k ∧ σ = zQ ρ [(0, .pointer (some ⟨b, 0, none⟩)), (3, .pointer (some ⟨b13, 0, none⟩)), (8, .int .i64 ((k : Nat) : Int))] ∧ (k ≤ n) ∧ (∀ i, i < k → yN L e i = true) ∧ Sep G1 w ((RowE (α := Int) own 3 v166 (zz n L)) :: (Blk b124 (((zq L (e.origin, e.seq)).getD default).cells v118).toArray 36) :: (RowE (α := Int) own 3 v118 (((zq L (e.origin, e.seq)).getD default).deps)) :: (Blk b13 (e.cells de0).toArray 36) :: Rs) wq) ⟨0, _, rfl, zh ⟨rfl, rfl, rfl, trivial⟩, Nat.zero_le _, (fun i h => absurd h (Nat.not_lt_zero i)), hS323⟩ ?_
    rintro m327 σ328 w326 ⟨k, ρl1, rfl, rfl, hkk, hm, hS329⟩
    refine zc ?_
    refine zc ?_
    refine za (by kernel_rfl) (fun _ => ?_)
    refine st (zb (v := .int .i64 ((k : Nat) : Int)) rfl ?_)
    refine st (zb (v := .pointer (some ⟨b, 0, none⟩)) rfl ?_)
    refine st (zn (b := b) (o := 0) rfl ?_)
    refine st (Zc rfl ?_)
    refine st (zg (v := .int .i64 ((n : Nat) : Int)) Try.isAgg3 rfl (zf (hS329.gblk hb9) rfl) ?_)
    refine st (zH (k := .i64) (a := ((k : Nat) : Int)) (b := ((n : Nat) : Int)) rfl rfl ?_)
    refine ze ?_
    cases hc330 : decide (((k : Nat) : Int) < ((n : Nat) : Int))
    ·skip
     have hc330r := hc330
     have hc330 := of_decide_eq_false hc330
     refine zi rfl ?_
     refine zO ?_
     refine zF ?_
     refine zc ?_
     refine za (by kernel_rfl) (fun _ => ?_)
     refine st (zd (v := (.slice none 0 0)) rfl ?_)
     refine ze ?_
     refine zc ?_
     refine za (by kernel_rfl) (fun _ => ?_)
     refine st (zd (v := .bool false) rfl ?_)
     refine ze ?_
     refine zc ?_
     refine zc ?_
     have hS331 := hk6 _ _ hS329
     have hS332 : Sep G W ((Blk b #[.int .i64 ((n : Nat) : Int), vl] 78) :: (RowE (α := Ev) own 36 vl L) :: (RowE (α := Int) own 3 v166 (zz n L)) :: (Blk b124 (((zq L (e.origin, e.seq)).getD default).cells v118).toArray 36) :: (RowE (α := Int) own 3 v118 (((zq L (e.origin, e.seq)).getD default).deps)) :: (Blk b13 (e.cells de0).toArray 36) :: Rs) w326 := Sep.openStar hS331
     have hr333 := hS332.row (i := 1) rfl
     have hr333s : _ * 96 ≤ _ := hr333.2
     have hS334 := hS332.mv1
     obtain ⟨G335, hA337, hB338, hS339, hk340⟩ := hS334.lend
     have hrd341 := RowE.rd hA337
     have hrd341s : _ * 96 ≤ _ := hrd341.small
     refine za (by kernel_rfl) (fun _ => ?_)
     refine st (zd (v := .int .i64 (0)) rfl ?_)
     refine ze ?_
     refine zt ?_
     have hS342 : Sep G335 w326 ((RowE (α := Ev) (alt G335 w326) 36 (.slice none 0 0) ([] : List Ev)) :: (Blk b #[.int .i64 ((n : Nat) : Int), vl] 78) :: (RowE (α := Int) own 3 v166 (zz n L)) :: (Blk b124 (((zq L (e.origin, e.seq)).getD default).cells v118).toArray 36) :: (RowE (α := Int) own 3 v118 (((zq L (e.origin, e.seq)).getD default).deps)) :: (Blk b13 (e.cells de0).toArray 36) :: Rs) w326 := hS339.rowNil (alt G335 w326) 36
     refine zP (fun mq σ wq => ∃ (k : Nat) (vo : Value) (ρ : Env), mq = L.length - k ∧ σ = zQ ρ [(0, .pointer (some ⟨b, 0, none⟩)), (3, .pointer (some ⟨b13, 0, none⟩)), (10, .bool ((zG e L k))), (11, .int .i64 ((k : Nat) : Int)), (9, vo)] ∧ (k ≤ L.length) ∧ Sep G335 w326 ((RowE (α := Ev) (alt G335 w326) 36 vo (ym e L k)) :: (Blk b #[.int .i64 ((n : Nat) : Int), vl] 78) :: (RowE (α := Int) own 3 v166 (zz n L)) :: (Blk b124 (((zq L (e.origin, e.seq)).getD default).cells v118).toArray 36) :: (RowE (α := Int) own 3 v118 (((zq L (e.origin, e.seq)).getD default).deps)) :: (Blk b13 (e.cells de0).toArray 36) :: Rs) wq) ⟨0, (.slice none 0 0), _, rfl, zh ⟨rfl, rfl, rfl, rfl, rfl, trivial⟩, Nat.zero_le _, hS342⟩ ?_
     rintro m344 σ345 w343 ⟨k, vo, ρl2, rfl, rfl, hkk, hS346⟩
     have hr347 := hS346.row (i := 0) rfl
     have hr347s : _ * 96 ≤ _ := hr347.2
     have hlk9 := Xt (e := e) (L := L) (k := k)
     refine zc ?_
     refine zc ?_
     refine za (by kernel_rfl) (fun _ => ?_)
     refine st (zb (v := .int .i64 ((k : Nat) : Int)) rfl ?_)
     refine st (zb (v := .pointer (some ⟨b, 0, none⟩)) rfl ?_)
     refine st (zn (b := b) (o := 0) rfl ?_)
     refine st (yI rfl ?_)
     refine st (zg (v := vl) Try.isAgg22 rfl (zf (hS346.blk (i := 1) rfl) rfl) ?_)
     refine st (zJ (n := L.length) Try.underlying22 rfl hrd341.sl ?_)
     refine st (zH (k := .i64) (a := ((k : Nat) : Int)) (b := ((L.length : Nat) : Int)) rfl rfl ?_)
     refine ze ?_
     cases hc348 : decide (((k : Nat) : Int) < ((L.length : Nat) : Int))
     ·skip
      have hc348r := hc348
      have hc348 := of_decide_eq_false hc348
      refine zi rfl ?_
      refine zO ?_
      refine zF ?_
      refine zc ?_
      refine zc ?_
      refine za (by kernel_rfl) (fun _ => ?_)
      refine st (zb (v := .bool ((zG e L k))) rfl ?_)
      refine st (yA (a := (zG e L k)) rfl ?_)
      refine ze ?_
      cases hc349 : !(zG e L k)
      ·skip
       have hc349r := hc349
       try simp only [zx] at hc349
       refine zi rfl ?_
       refine zo ?_
       refine zc ?_
       refine za (by kernel_rfl) (fun _ => ?_)
       refine st (zb (v := .pointer (some ⟨b, 0, none⟩)) rfl ?_)
       refine st (zb (v := vo) rfl ?_)
       refine st (zn (b := b) (o := 0) rfl ?_)
       refine st (yI rfl ?_)
       refine stn (yd (v := vo) (c := [.int .i64 ((n : Nat) : Int), vl]) (c' := [.int .i64 ((n : Nat) : Int), vo]) Try.sizeOf22 rfl rfl (hS346.blk (i := 1) rfl) hr347.1.one rfl rfl ?_)
       intro w350 hp351
       have hS352 := hS346.pt1 hp351
       refine ze ?_
       refine zc ?_
       refine za (by kernel_rfl) (fun _ => ?_)
       refine st (zd (v := .int .i64 (0)) rfl ?_)
       refine ze ?_
       refine zw ?_
       refine zL Try.results22 (show _ = (.int .i64 (0) : Value) from rfl) ?_
       have hS353 := hk340 _ _ hS352
       have hS354 : Sep G W ((RowE (α := Ev) own 36 vl L) :: Rs) w350 := hS353.sel 7 [0] (Nat.le_add_left _ _) rfl rfl
       refine ⟨(yj e L), ?_, ?_, hS354⟩
       · rw [Zj hc117 hc130 (by rw [hv9] at hc325; exact hc325) (fun i hi => hm i (by omega))]
       · rw [xF (Zj hc117 hc130 (by rw [hv9] at hc325; exact hc325) (fun i hi => hm i (by omega)))]
      ·skip
       have hc349r := hc349
       try simp only [zx] at hc349
       refine zk rfl ?_
       refine za (by kernel_rfl) (fun _ => ?_)
       refine st (zb (v := vo) rfl ?_)
       refine st (zr (k := 10) Try.isAgg36 Try.sizeOf36 rfl rfl (CellsAt.all (hS346.blk (i := 5) rfl)) ?_)
       refine st (zj (f := 23) (vals := [.agg (e.cells de0).toArray]) (cap := []) rfl rfl Try.call23 (yJ (e := e) (RdS.base hde0 hB338) oe hS346) ?_)
       rintro _ w356 ⟨v355, rfl, hS357⟩
       have hr358 := hS357.row (i := 0) rfl
       have hr358s : _ * 8 ≤ _ := hr358.2
       refine st (zD (k := 10) (parts' := [(0, .agg (e.cells v355).toArray)]) (c := (e.cells v355).toArray) Try.underlying22 Try.sizeOf36 Try.zeroValue36 (by decide) rfl (by kernel_rfl) ?_)
       intro w361 b360 hn359
       have hS362 := hS357.new hn359
       have hbk366 := hS362.blk (i := 0) rfl
       have hS367 : Sep G335 w326 ((RowE (α := Ev) (alt G335 w326) 36 vo (ym e L k)) :: (RowE (α := Int) own 3 v355 e.deps) :: (Blk b #[.int .i64 ((n : Nat) : Int), vl] 78) :: (RowE (α := Int) own 3 v166 (zz n L)) :: (Blk b124 (((zq L (e.origin, e.seq)).getD default).cells v118).toArray 36) :: (RowE (α := Int) own 3 v118 (((zq L (e.origin, e.seq)).getD default).deps)) :: (Blk b13 (e.cells de0).toArray 36) :: Rs) w361 := hS362.sel 8 [2, 1, 3, 4, 5, 6, 7] (Nat.le_add_left _ _) rfl rfl
       refine st (zZ (src := (alt G335 w326)) (bytes := 96) (x1 := e) hS367 xZ rfl rfl hbk366 (fun _ _ hN => Yw hN oe) (by first | omega | (simp only [List.length_append, List.length_cons, List.length_nil, List.length_take, List.length_drop]; omega)) rfl ?_)
       intro v364 w363 hS365
       have hr368 := hS365.row (i := 0) rfl
       have hr368s : _ * 96 ≤ _ := hr368.2
       refine st (zd (v := v364) rfl ?_)
       refine ze ?_
       refine zc ?_
       refine za (by kernel_rfl) (fun _ => ?_)
       refine st (zb (v := .pointer (some ⟨b, 0, none⟩)) rfl ?_)
       refine st (zb (v := v364) rfl ?_)
       refine st (zn (b := b) (o := 0) rfl ?_)
       refine st (yI rfl ?_)
       refine stn (yd (v := v364) (c := [.int .i64 ((n : Nat) : Int), vl]) (c' := [.int .i64 ((n : Nat) : Int), v364]) Try.sizeOf22 rfl rfl (hS365.blk (i := 1) rfl) hr368.1.one rfl rfl ?_)
       intro w369 hp370
       have hS371 := hS365.pt1 hp370
       refine ze ?_
       refine zc ?_
       refine za (by kernel_rfl) (fun _ => ?_)
       refine st (zd (v := .int .i64 (0)) rfl ?_)
       refine ze ?_
       refine zw ?_
       refine zL Try.results22 (show _ = (.int .i64 (0) : Value) from rfl) ?_
       have hS372 := hk340 _ _ hS371
       have hS373 : Sep G W ((RowE (α := Ev) own 36 vl L) :: Rs) w369 := hS372.sel 7 [0] (Nat.le_add_left _ _) rfl rfl
       refine ⟨(yj e L), ?_, ?_, hS373⟩
       · rw [Zj hc117 hc130 (by rw [hv9] at hc325; exact hc325) (fun i hi => hm i (by omega))]
       · rw [xF (Zj hc117 hc130 (by rw [hv9] at hc325; exact hc325) (fun i hi => hm i (by omega)))]
     ·skip
      have hc348r := hc348
      have hc348 := of_decide_eq_true hc348
      refine zk rfl ?_
      refine zo ?_
      refine zc ?_
      refine zt ?_
      refine zc ?_
      refine zc ?_
      refine zM ((fun TT pp0 => WF [fun vals wq => Sep G335 w326 (pp0 :: TT) wq, fun vals wq => (vals 11 = (if (!(zG e L k)) = true then (.bool ((ltE e (L.getD k default))) : Value) else undef)) ∧ Sep G335 w326 (pp0 :: TT) wq]) ((Blk b #[.int .i64 ((n : Nat) : Int), vl] 78) :: (RowE (α := Int) own 3 v166 (zz n L)) :: (Blk b124 (((zq L (e.origin, e.seq)).getD default).cells v118).toArray 36) :: (RowE (α := Int) own 3 v118 (((zq L (e.origin, e.seq)).getD default).deps)) :: (Blk b13 (e.cells de0).toArray 36) :: Rs) (RowE (α := Ev) (alt G335 w326) 36 vo (ym e L k))) (AF [Vl 0 (.bool ((zG e L k))), Vl 1 (.bool (!(zG e L k))), Vl 2 (.bool (!(zG e L k))), Vl 3 (if (!(zG e L k)) = true then .agg (e.cells de0).toArray else undef), Vl 4 (if (!(zG e L k)) = true then .pointer (some ⟨b, 0, none⟩) else undef), Vl 5 (if (!(zG e L k)) = true then .pointer (some ⟨b, 0, none⟩) else undef), Vl 6 (if (!(zG e L k)) = true then .pointer (some ⟨b, 1, none⟩) else undef), Vl 7 (if (!(zG e L k)) = true then vl else undef), Vl 8 (if (!(zG e L k)) = true then .int .i64 ((k : Nat) : Int) else undef), Vl 9 (if (!(zG e L k)) = true then .pointer (some ⟨sb vl, so vl + k * 10, none⟩) else undef), Vl 10 (if (!(zG e L k)) = true then .agg ((L.getD k default).cells (zT w326 (sb vl) (so vl + k * 10 + 3))).toArray else undef), fun _ => True, Vl 12 (.bool ((!(zG e L k)) && (ltE e (L.getD k default))))]) [[], [0], [0, 1], [0, 1, 2], [0, 1, 2], [0, 1, 2, 4], [0, 1, 2, 4, 5], [0, 1, 2, 4, 5, 6], [0, 1, 2], [0, 1, 2, 4, 5, 6, 7, 8], [0, 1, 2, 4, 5, 6, 7, 8, 9], [0, 1, 2, 3, 4, 5, 6, 7, 8, 9, 10], [0, 1, 2, 3, 4, 5, 6, 7, 8, 9, 10, 11]] [11] [(0, 0), (0, 0), (0, 0), (0, 0), (0, 0), (0, 0), (0, 0), (0, 0), (0, 0), (0, 0), (0, 0), (0, 0), (1, 1)] (by kernel_rfl) (by kernel_rfl) (by kernel_rfl) rfl (by kernel_rfl) (by kernel_rfl) (fun _ h1 h2 h3 h4 _ => hS346.same h1 h2 h3 h4) ?_ (yc ⟨dA, dA, dA, dA, dA, dA, dA, dA, dA, dA, dA, dT, dA, trivial⟩) ⟨?_, ?_, ?_, ?_, ?_, ?_, ?_, ?_, ?_, ?_, ?_, ?_, ?_, trivial⟩ ?_
      ·intro k vals vals' w hv h
       have e : ∀ j ∈ ([11] : List Nat), vals' j = vals j := hv
       match k, h with
       | 0, h => exact h
       | 1, h => exact (by simpa only [WF, List.getElem?_cons_zero, List.getElem?_cons_succ, e 11 (by decide)] using h)
       | _ + 2, _ => trivial
      ·intro k508 vals w509 h512 h513 hW511 hA510
       refine obl rfl ?_
       exact zb (v := .bool ((zG e L k))) rfl (fun vals' hv _ => ⟨rfl, hv⟩)
      ·intro k514 vals w515 h518 h519 hW517 hA516
       have e520 := hA516 0 (by decide)
       refine obl rfl ?_
       exact yA (a := (zG e L k)) e520 (fun vals' hv _ => ⟨rfl, hv⟩)
      ·intro k521 vals w522 h525 h526 hW524 hA523
       have e527 := hA523 1 (by decide)
       refine obl rfl ?_
       exact zb (v := .bool (!(zG e L k))) e527 (fun vals' hv _ => ⟨rfl, hv⟩)
      ·intro k528 vals w529 h532 h533 hW531 hA530
       obtain rfl : k528 = 0 := Nat.le_antisymm h533 h532
       have hS534 : Sep _ _ _ _ := hW531
       have e535 := hA530 2 (by decide)
       refine yT rfl rfl e535 (fun hb536 => ?_) (fun hb536 => fun vals' hv _ => ⟨trivial, hv.trans (if_neg hb536).symm⟩)
       have hl537 := hb536
       try simp only [zx] at hl537
       exact zr (k := 10) Try.isAgg36 Try.sizeOf36 rfl rfl (CellsAt.all (hS534.blk (i := 5) rfl)) (fun vals' hv _ => ⟨rfl, hv.trans (if_pos hb536).symm⟩)
      ·intro k538 vals w539 h542 h543 hW541 hA540
       have e544 := hA540 2 (by decide)
       refine yT rfl rfl e544 (fun hb545 => ?_) (fun hb545 => fun vals' hv _ => ⟨trivial, hv.trans (if_neg hb545).symm⟩)
       have hl546 := hb545
       try simp only [zx] at hl546
       exact zb (v := .pointer (some ⟨b, 0, none⟩)) rfl (fun vals' hv _ => ⟨rfl, hv.trans (if_pos hb545).symm⟩)
      ·intro k547 vals w548 h551 h552 hW550 hA549
       have e553 := hA549 2 (by decide)
       have e554 : vals 4 = (if (!(zG e L k)) = true then (.pointer (some ⟨b, 0, none⟩) : Value) else undef) := hA549 4 (by decide)
       refine yT rfl rfl e553 (fun hb555 => ?_) (fun hb555 => fun vals' hv _ => ⟨trivial, hv.trans (if_neg hb555).symm⟩)
       have hl556 := hb555
       try simp only [zx] at hl556
       exact zn (b := b) (o := 0) (show _ = (.pointer (some ⟨b, 0, none⟩) : Value) from (Eq.trans e554 (if_pos hb555))) (fun vals' hv _ => ⟨rfl, hv.trans (if_pos hb555).symm⟩)
      ·intro k557 vals w558 h561 h562 hW560 hA559
       have e563 := hA559 2 (by decide)
       have e564 : vals 5 = (if (!(zG e L k)) = true then (.pointer (some ⟨b, 0, none⟩) : Value) else undef) := hA559 5 (by decide)
       refine yT rfl rfl e563 (fun hb565 => ?_) (fun hb565 => fun vals' hv _ => ⟨trivial, hv.trans (if_neg hb565).symm⟩)
       have hl566 := hb565
       try simp only [zx] at hl566
       exact yI (show _ = (.pointer (some ⟨b, 0, none⟩) : Value) from (Eq.trans e564 (if_pos hb565))) (fun vals' hv _ => ⟨rfl, hv.trans (if_pos hb565).symm⟩)
      ·intro k567 vals w568 h571 h572 hW570 hA569
       obtain rfl : k567 = 0 := Nat.le_antisymm h572 h571
       have hS573 : Sep _ _ _ _ := hW570
       have e574 := hA569 2 (by decide)
       have e575 : vals 6 = (if (!(zG e L k)) = true then (.pointer (some ⟨b, 1, none⟩) : Value) else undef) := hA569 6 (by decide)
       refine yT rfl rfl e574 (fun hb576 => ?_) (fun hb576 => fun vals' hv _ => ⟨trivial, hv.trans (if_neg hb576).symm⟩)
       have hl577 := hb576
       try simp only [zx] at hl577
       exact zg (v := vl) Try.isAgg22 (show _ = (.pointer (some ⟨b, 1, none⟩) : Value) from (Eq.trans e575 (if_pos hb576))) (zf (hS573.blk (i := 1) rfl) rfl) (fun vals' hv _ => ⟨rfl, hv.trans (if_pos hb576).symm⟩)
      ·intro k578 vals w579 h582 h583 hW581 hA580
       have e584 := hA580 2 (by decide)
       refine yT rfl rfl e584 (fun hb585 => ?_) (fun hb585 => fun vals' hv _ => ⟨trivial, hv.trans (if_neg hb585).symm⟩)
       have hl586 := hb585
       try simp only [zx] at hl586
       exact zb (v := .int .i64 ((k : Nat) : Int)) rfl (fun vals' hv _ => ⟨rfl, hv.trans (if_pos hb585).symm⟩)
      ·intro k587 vals w588 h591 h592 hW590 hA589
       obtain rfl : k587 = 0 := Nat.le_antisymm h592 h591
       have hS593 : Sep _ _ _ _ := hW590
       have e594 := hA589 2 (by decide)
       have e595 : vals 7 = (if (!(zG e L k)) = true then (vl : Value) else undef) := hA589 7 (by decide)
       have e596 : vals 8 = (if (!(zG e L k)) = true then (.int .i64 ((k : Nat) : Int) : Value) else undef) := hA589 8 (by decide)
       refine yT rfl rfl e594 (fun hb597 => ?_) (fun hb597 => fun vals' hv _ => ⟨trivial, hv.trans (if_neg hb597).symm⟩)
       have hl598 := hb597
       try simp only [zx] at hl598
       have hi599 : k < L.length := (by first | omega | (simp only [lens]; omega))
       exact zl (k := 10) (i := k) Try.underlying22 Try.sizeOf36 (show _ = (vl : Value) from (Eq.trans e595 (if_pos hb597))) hrd341.sl (show _ = (.int .i64 ((k : Nat) : Int) : Value) from (Eq.trans e596 (if_pos hb597))) hi599 (fun vals' hv _ => ⟨rfl, hv.trans (if_pos hb597).symm⟩)
      ·intro k600 vals w601 h604 h605 hW603 hA602
       obtain rfl : k600 = 0 := Nat.le_antisymm h605 h604
       have hS606 : Sep _ _ _ _ := hW603
       have e607 := hA602 2 (by decide)
       have e608 : vals 9 = (if (!(zG e L k)) = true then (.pointer (some ⟨sb vl, so vl + k * 10, none⟩) : Value) else undef) := hA602 9 (by decide)
       refine yT rfl rfl e607 (fun hb609 => ?_) (fun hb609 => fun vals' hv _ => ⟨trivial, hv.trans (if_neg hb609).symm⟩)
       have hl610 := hb609
       try simp only [zx] at hl610
       have hi612 : k < L.length := (by first | omega | (simp only [lens]; omega))
       obtain ⟨hce611, hde611_0, hoke611⟩ := hrd341.ev hi612
       rw [← zm default hi612] at hce611 hde611_0 hoke611
       have hsm613 : ((L.getD k default).deps).length * 8 ≤ 140737488355328 := hde611_0.small
       have hcw614 := hS606.cells hce611 (hrd341.foot (ne_of_lt hi612))
       exact zr (k := 10) Try.isAgg36 Try.sizeOf36 rfl (show _ = (.pointer (some ⟨sb vl, so vl + k * 10, none⟩) : Value) from (Eq.trans e608 (if_pos hb609))) hcw614 (fun vals' hv _ => ⟨rfl, hv.trans (if_pos hb609).symm⟩)
      ·intro k481 vals w482 h485 h486 hW484 hA483
       obtain rfl : k481 = 0 := Nat.le_antisymm h486 h485
       have hS487 : Sep _ _ _ _ := hW484
       have e488 := hA483 2 (by decide)
       have e489 : vals 3 = (if (!(zG e L k)) = true then (.agg (e.cells de0).toArray : Value) else undef) := hA483 3 (by decide)
       have e490 : vals 10 = (if (!(zG e L k)) = true then (.agg ((L.getD k default).cells (zT w326 (sb vl) (so vl + k * 10 + 3))).toArray : Value) else undef) := hA483 10 (by decide)
       refine yT rfl rfl e488 (fun hb491 => ?_) (fun hb491 vals' hv hv' => ?_)
       ·skip
        have hl492 := hb491
        try simp only [zx] at hl492
        have hi494 : k < L.length := (by first | omega | (simp only [lens]; omega))
        obtain ⟨hce493, hde493_0, hoke493⟩ := hrd341.ev hi494
        rw [← zm default hi494] at hce493 hde493_0 hoke493
        have hsm495 : ((L.getD k default).deps).length * 8 ≤ 140737488355328 := hde493_0.small
        have hcw496 := hS487.cells hce493 (hrd341.foot (ne_of_lt hi494))
        refine (zj (f := 56) (vals := [.agg (e.cells de0).toArray, .agg ((L.getD k default).cells (zT w326 (sb vl) (so vl + k * 10 + 3))).toArray]) (cap := []) rfl (xc ⟨(show _ = (.agg (e.cells de0).toArray : Value) from (Eq.trans e489 (if_pos hb491))), (show _ = (.agg ((L.getD k default).cells (zT w326 (sb vl) (so vl + k * 10 + 3))).toArray : Value) from (Eq.trans e490 (if_pos hb491))), trivial⟩) Try.call56 (XS (a := e) (b := (L.getD k default)) (RdS.base hde0 hB338) oe hde493_0 hoke493 hS487) ?_)
        rintro _ w497 ⟨rfl, hS498⟩
        intro vals' hv hv'
        refine ⟨?_, trivial⟩
        show (vals' 11 = (if (!(zG e L k)) = true then (.bool ((ltE e (L.getD k default))) : Value) else undef)) ∧ Sep G335 w326 ((RowE (α := Ev) (alt G335 w326) 36 vo (ym e L k)) :: (Blk b #[.int .i64 ((n : Nat) : Int), vl] 78) :: (RowE (α := Int) own 3 v166 (zz n L)) :: (Blk b124 (((zq L (e.origin, e.seq)).getD default).cells v118).toArray 36) :: (RowE (α := Int) own 3 v118 (((zq L (e.origin, e.seq)).getD default).deps)) :: (Blk b13 (e.cells de0).toArray 36) :: Rs) w497
        exact ⟨(hv.trans (if_pos hb491).symm), hS498⟩
       ·skip
        refine ⟨?_, trivial⟩
        show (vals' 11 = (if (!(zG e L k)) = true then (.bool ((ltE e (L.getD k default))) : Value) else undef)) ∧ Sep G335 w326 ((RowE (α := Ev) (alt G335 w326) 36 vo (ym e L k)) :: (Blk b #[.int .i64 ((n : Nat) : Int), vl] 78) :: (RowE (α := Int) own 3 v166 (zz n L)) :: (Blk b124 (((zq L (e.origin, e.seq)).getD default).cells v118).toArray 36) :: (RowE (α := Int) own 3 v118 (((zq L (e.origin, e.seq)).getD default).deps)) :: (Blk b13 (e.cells de0).toArray 36) :: Rs) w482
        exact ⟨(hv.trans (if_neg hb491).symm), hS487⟩
      ·intro k615 vals w616 h619 h620 hW618 hA617
       obtain rfl : k615 = 1 := Nat.le_antisymm h620 h619
       obtain ⟨he499, hS621⟩ := hW618
       have e622 := hA617 2 (by decide)
       refine obl rfl ?_
       exact yp (b := !(zG e L k)) (b' := (ltE e (L.getD k default))) e622 (fun hbp => (show _ = (.bool ((ltE e (L.getD k default))) : Value) from (Eq.trans he499 (if_pos hbp)))) (fun vals' hv _ => ⟨rfl, hv⟩)
      intro vals w623 hW624 hA625
      obtain ⟨he499, hS626⟩ := hW624
      have e627 := hA625 12 (by decide)
      refine yb (kv := [(0, .pointer (some ⟨b, 0, none⟩)), (3, .pointer (some ⟨b13, 0, none⟩)), (10, .bool ((zG e L k))), (11, .int .i64 ((k : Nat) : Int)), (9, vo), (54, .int .i64 ((k : Nat) : Int)), (55, .pointer (some ⟨b, 0, none⟩)), (56, .pointer (some ⟨b, 0, none⟩)), (57, .pointer (some ⟨b, 1, none⟩)), (58, vl), (59, .int .i64 ((L.length : Nat) : Int)), (60, .bool true), (75, .bool ((!(zG e L k)) && (ltE e (L.getD k default))))]) ⟨rfl, rfl, rfl, rfl, rfl, rfl, rfl, rfl, rfl, rfl, rfl, rfl, (by exact e627), trivial⟩ (fun ρw623 => ?_)
      refine ze ?_
      cases hc628 : (!(zG e L k)) && (ltE e (L.getD k default))
      ·skip
       have hc628r := hc628
       try simp only [zx] at hc628
       refine zi rfl ?_
       refine zo ?_
       refine za (by kernel_rfl) (fun _ => ?_)
       refine st (zb (v := vo) rfl ?_)
       refine st (zb (v := .pointer (some ⟨b, 0, none⟩)) rfl ?_)
       refine st (zn (b := b) (o := 0) rfl ?_)
       refine st (yI rfl ?_)
       refine st (zg (v := vl) Try.isAgg22 rfl (zf (hS626.blk (i := 1) rfl) rfl) ?_)
       refine st (zb (v := .int .i64 ((k : Nat) : Int)) rfl ?_)
       have hi629 : k < L.length := (by first | omega | (simp only [lens]; omega))
       refine st (zl (k := 10) (i := k) Try.underlying22 Try.sizeOf36 rfl hrd341.sl rfl hi629 ?_)
       have hi631 : k < L.length := (by first | omega | (simp only [lens]; omega))
       obtain ⟨hce630, hde630_0, hoke630⟩ := hrd341.ev hi631
       rw [← zm default hi631] at hce630 hde630_0 hoke630
       have hsm632 : ((L.getD k default).deps).length * 8 ≤ 140737488355328 := hde630_0.small
       have hcw633 := hS626.cells hce630 (hrd341.foot (ne_of_lt hi631))
       refine st (zr (k := 10) Try.isAgg36 Try.sizeOf36 rfl rfl hcw633 ?_)
       refine st (zD (k := 10) (parts' := [(0, .agg ((L.getD k default).cells (zT w326 (sb vl) (so vl + k * 10 + 3))).toArray)]) (c := ((L.getD k default).cells (zT w326 (sb vl) (so vl + k * 10 + 3))).toArray) Try.underlying22 Try.sizeOf36 Try.zeroValue36 (by decide) rfl (by kernel_rfl) ?_)
       intro w636 b635 hn634
       have hS637 := hS626.new hn634
       have hbk641 := hS637.blk (i := 0) rfl
       have hS642 : Sep G335 w326 ((RowE (α := Ev) (alt G335 w326) 36 vo (ym e L k)) :: (Blk b #[.int .i64 ((n : Nat) : Int), vl] 78) :: (RowE (α := Int) own 3 v166 (zz n L)) :: (Blk b124 (((zq L (e.origin, e.seq)).getD default).cells v118).toArray 36) :: (RowE (α := Int) own 3 v118 (((zq L (e.origin, e.seq)).getD default).deps)) :: (Blk b13 (e.cells de0).toArray 36) :: Rs) w636 := hS637.sel 7 [1, 2, 3, 4, 5, 6] (Nat.le_add_left _ _) rfl rfl
       have hS643 : Sep G335 w326 ((RowE (α := Ev) (alt G335 w326) 36 vo (ym e L k)) :: Emp :: (Blk b #[.int .i64 ((n : Nat) : Int), vl] 78) :: (RowE (α := Int) own 3 v166 (zz n L)) :: (Blk b124 (((zq L (e.origin, e.seq)).getD default).cells v118).toArray 36) :: (RowE (α := Int) own 3 v118 (((zq L (e.origin, e.seq)).getD default).deps)) :: (Blk b13 (e.cells de0).toArray 36) :: Rs) w636 := hS642.emp1
       refine st (zZ (src := (alt G335 w326)) (bytes := 96) (x1 := (L.getD k default)) hS643 xZ rfl rfl hbk641 (fun _ _ _ => (show _ from XZ (RdS.evD hrd341 (by omega)))) (by first | omega | (simp only [List.length_append, List.length_cons, List.length_nil, List.length_take, List.length_drop]; omega)) rfl ?_)
       intro v639 w638 hS640
       have hr644 := hS640.row (i := 0) rfl
       have hr644s : _ * 96 ≤ _ := hr644.2
       refine st (zd (v := v639) rfl ?_)
       refine ze ?_
       refine za (by kernel_rfl) (fun _ => ?_)
       refine st (zb (v := .int .i64 ((k : Nat) : Int)) rfl ?_)
       have hr645 : InR ((k + 1 : Nat) : Int) := by first | omega | (simp only [lens]; omega)
       refine st (zB (r := ((k + 1 : Nat) : Int)) (k := .i64) (a := ((k : Nat) : Int)) (b := 1) rfl rfl (by rw [show (((k : Nat) : Int) + 1 : Int) = ((k + 1 : Nat) : Int) by first | omega | (simp only [lens]; omega)]; exact zy hr645) ?_)
       refine st (zd (v := .int .i64 ((k + 1 : Nat) : Int)) rfl ?_)
       refine ze ?_
       have hL646 : (ym e L (k + 1)) = (ym e L k) ++ [(L.getD k default)] := (Zm (by omega) hc628r).1
       rw [← hL646] at hS640
       exact ⟨_, by omega, k + 1, v639, _, rfl, zh ⟨rfl, rfl, (show _ = (.bool (zG e L (k + 1)) : Value) from (congrArg Value.bool (Zm (by omega) hc628r).2).symm), rfl, rfl, trivial⟩, by omega, hS640⟩
      ·skip
       have hc628r := hc628
       try simp only [zx] at hc628
       refine zk rfl ?_
       refine zc ?_
       refine za (by kernel_rfl) (fun _ => ?_)
       refine st (zb (v := vo) rfl ?_)
       refine st (zr (k := 10) Try.isAgg36 Try.sizeOf36 rfl rfl (CellsAt.all (hS626.blk (i := 5) rfl)) ?_)
       refine st (zj (f := 23) (vals := [.agg (e.cells de0).toArray]) (cap := []) rfl rfl Try.call23 (yJ (e := e) (RdS.base hde0 hB338) oe hS626) ?_)
       rintro _ w648 ⟨v647, rfl, hS649⟩
       have hr650 := hS649.row (i := 0) rfl
       have hr650s : _ * 8 ≤ _ := hr650.2
       refine st (zD (k := 10) (parts' := [(0, .agg (e.cells v647).toArray)]) (c := (e.cells v647).toArray) Try.underlying22 Try.sizeOf36 Try.zeroValue36 (by decide) rfl (by kernel_rfl) ?_)
       intro w653 b652 hn651
       have hS654 := hS649.new hn651
       have hbk658 := hS654.blk (i := 0) rfl
       have hS659 : Sep G335 w326 ((RowE (α := Ev) (alt G335 w326) 36 vo (ym e L k)) :: (RowE (α := Int) own 3 v647 e.deps) :: (Blk b #[.int .i64 ((n : Nat) : Int), vl] 78) :: (RowE (α := Int) own 3 v166 (zz n L)) :: (Blk b124 (((zq L (e.origin, e.seq)).getD default).cells v118).toArray 36) :: (RowE (α := Int) own 3 v118 (((zq L (e.origin, e.seq)).getD default).deps)) :: (Blk b13 (e.cells de0).toArray 36) :: Rs) w653 := hS654.sel 8 [2, 1, 3, 4, 5, 6, 7] (Nat.le_add_left _ _) rfl rfl
       refine st (zZ (src := (alt G335 w326)) (bytes := 96) (x1 := e) hS659 xZ rfl rfl hbk658 (fun _ _ hN => Yw hN oe) (by first | omega | (simp only [List.length_append, List.length_cons, List.length_nil, List.length_take, List.length_drop]; omega)) rfl ?_)
       intro v656 w655 hS657
       have hr660 := hS657.row (i := 0) rfl
       have hr660s : _ * 96 ≤ _ := hr660.2
       refine st (zd (v := v656) rfl ?_)
       refine ze ?_
       refine za (by kernel_rfl) (fun _ => ?_)
       refine st (zd (v := .bool true) rfl ?_)
       refine ze ?_
       refine za (by kernel_rfl) (fun _ => ?_)
       refine st (zb (v := v656) rfl ?_)
       refine st (zb (v := .pointer (some ⟨b, 0, none⟩)) rfl ?_)
       refine st (zn (b := b) (o := 0) rfl ?_)
       refine st (yI rfl ?_)
       refine st (zg (v := vl) Try.isAgg22 rfl (zf (hS657.blk (i := 1) rfl) rfl) ?_)
       refine st (zb (v := .int .i64 ((k : Nat) : Int)) rfl ?_)
       have hi661 : k < L.length := (by first | omega | (simp only [lens]; omega))
       refine st (zl (k := 10) (i := k) Try.underlying22 Try.sizeOf36 rfl hrd341.sl rfl hi661 ?_)
       have hi663 : k < L.length := (by first | omega | (simp only [lens]; omega))
       obtain ⟨hce662, hde662_0, hoke662⟩ := hrd341.ev hi663
       rw [← zm default hi663] at hce662 hde662_0 hoke662
       have hsm664 : ((L.getD k default).deps).length * 8 ≤ 140737488355328 := hde662_0.small
       have hcw665 := hS657.cells hce662 (hrd341.foot (ne_of_lt hi663))
       refine st (zr (k := 10) Try.isAgg36 Try.sizeOf36 rfl rfl hcw665 ?_)
       refine st (zD (k := 10) (parts' := [(0, .agg ((L.getD k default).cells (zT w326 (sb vl) (so vl + k * 10 + 3))).toArray)]) (c := ((L.getD k default).cells (zT w326 (sb vl) (so vl + k * 10 + 3))).toArray) Try.underlying22 Try.sizeOf36 Try.zeroValue36 (by decide) rfl (by kernel_rfl) ?_)
       intro w668 b667 hn666
       have hS669 := hS657.new hn666
       have hbk673 := hS669.blk (i := 0) rfl
       have hS674 : Sep G335 w326 ((RowE (α := Ev) (alt G335 w326) 36 v656 ((ym e L k) ++ [e])) :: (Blk b #[.int .i64 ((n : Nat) : Int), vl] 78) :: (RowE (α := Int) own 3 v166 (zz n L)) :: (Blk b124 (((zq L (e.origin, e.seq)).getD default).cells v118).toArray 36) :: (RowE (α := Int) own 3 v118 (((zq L (e.origin, e.seq)).getD default).deps)) :: (Blk b13 (e.cells de0).toArray 36) :: Rs) w668 := hS669.sel 7 [1, 2, 3, 4, 5, 6] (Nat.le_add_left _ _) rfl rfl
       have hS675 : Sep G335 w326 ((RowE (α := Ev) (alt G335 w326) 36 v656 ((ym e L k) ++ [e])) :: Emp :: (Blk b #[.int .i64 ((n : Nat) : Int), vl] 78) :: (RowE (α := Int) own 3 v166 (zz n L)) :: (Blk b124 (((zq L (e.origin, e.seq)).getD default).cells v118).toArray 36) :: (RowE (α := Int) own 3 v118 (((zq L (e.origin, e.seq)).getD default).deps)) :: (Blk b13 (e.cells de0).toArray 36) :: Rs) w668 := hS674.emp1
       refine st (zZ (src := (alt G335 w326)) (bytes := 96) (x1 := (L.getD k default)) hS675 xZ rfl rfl hbk673 (fun _ _ _ => (show _ from XZ (RdS.evD hrd341 (by omega)))) (by first | omega | (simp only [List.length_append, List.length_cons, List.length_nil, List.length_take, List.length_drop]; omega)) rfl ?_)
       intro v671 w670 hS672
       have hr676 := hS672.row (i := 0) rfl
       have hr676s : _ * 96 ≤ _ := hr676.2
       refine st (zd (v := v671) rfl ?_)
       refine ze ?_
       refine za (by kernel_rfl) (fun _ => ?_)
       refine st (zb (v := .int .i64 ((k : Nat) : Int)) rfl ?_)
       have hr677 : InR ((k + 1 : Nat) : Int) := by first | omega | (simp only [lens]; omega)
       refine st (zB (r := ((k + 1 : Nat) : Int)) (k := .i64) (a := ((k : Nat) : Int)) (b := 1) rfl rfl (by rw [show (((k : Nat) : Int) + 1 : Int) = ((k + 1 : Nat) : Int) by first | omega | (simp only [lens]; omega)]; exact zy hr677) ?_)
       refine st (zd (v := .int .i64 ((k + 1 : Nat) : Int)) rfl ?_)
       refine ze ?_
       have hL678 : (ym e L (k + 1)) = (ym e L k) ++ [e] ++ [(L.getD k default)] := (ZF (by omega) hc628r).1
       rw [← hL678] at hS672
       exact ⟨_, by omega, k + 1, v671, _, rfl, zh ⟨rfl, rfl, (show _ = (.bool (zG e L (k + 1)) : Value) from (congrArg Value.bool (ZF (by omega) hc628r).2).symm), rfl, rfl, trivial⟩, by omega, hS672⟩
    ·skip
     have hc330r := hc330
     have hc330 := of_decide_eq_true hc330
     refine zk rfl ?_
     refine zo ?_
     refine zc ?_
     refine zt ?_
     refine zc ?_
     refine za (by kernel_rfl) (fun _ => ?_)
     refine st (zb (v := .pointer (some ⟨b, 0, none⟩)) rfl ?_)
     refine st (zr (k := 10) Try.isAgg36 Try.sizeOf36 rfl rfl (CellsAt.all (hS329.blk (i := 3) rfl)) ?_)
     refine st (zb (v := .int .i64 ((k : Nat) : Int)) rfl ?_)
     refine st (zj (f := 55) (vals := [.pointer (some ⟨b, 0, none⟩), .agg (e.cells de0).toArray, .int .i64 ((k : Nat) : Int)]) (cap := []) rfl rfl Try.call55 (VZ (e := e) (o := k) hA7 (RdS.base hde0 hB4) oe (by first | omega | (refine ⟨?_, ?_⟩ <;> omega)) hS329 (hd9) (hG.len)) ?_)
     rintro _ w679 ⟨rfl, hS680⟩
     refine st (yA (a := (yN L e k)) rfl ?_)
     refine ze ?_
     cases hc681 : !(yN L e k)
     ·skip
      have hc681r := hc681
      try simp only [zx] at hc681
      refine zi rfl ?_
      refine zo ?_
      refine za (by kernel_rfl) (fun _ => ?_)
      refine st (zb (v := .int .i64 ((k : Nat) : Int)) rfl ?_)
      have hr682 : InR ((k + 1 : Nat) : Int) := by first | omega | (simp only [lens]; omega)
      refine st (zB (r := ((k + 1 : Nat) : Int)) (k := .i64) (a := ((k : Nat) : Int)) (b := 1) rfl rfl (by rw [show (((k : Nat) : Int) + 1 : Int) = ((k + 1 : Nat) : Int) by first | omega | (simp only [lens]; omega)]; exact zy hr682) ?_)
      refine st (zd (v := .int .i64 ((k + 1 : Nat) : Int)) rfl ?_)
      refine ze ?_
      exact ⟨_, by omega, k + 1, _, rfl, zh ⟨rfl, rfl, rfl, trivial⟩, by omega, (yE hm (by simpa using hc681)), hS680⟩
     ·skip
      have hc681r := hc681
      try simp only [zx] at hc681
      refine zk rfl ?_
      refine zc ?_
      refine za (by kernel_rfl) (fun _ => ?_)
      refine st (zd (v := .int .i64 (9)) rfl ?_)
      refine ze ?_
      refine zw ?_
      refine zL Try.results22 (show _ = (.int .i64 (9) : Value) from rfl) ?_
      have hS683 := hk6 _ _ hS680
      have hS684 : Sep G W ((Blk b #[.int .i64 ((n : Nat) : Int), vl] 78) :: (RowE (α := Ev) own 36 vl L) :: (RowE (α := Int) own 3 v166 (zz n L)) :: (Blk b124 (((zq L (e.origin, e.seq)).getD default).cells v118).toArray 36) :: (RowE (α := Int) own 3 v118 (((zq L (e.origin, e.seq)).getD default).deps)) :: (Blk b13 (e.cells de0).toArray 36) :: Rs) w679 := Sep.openStar hS683
      have hS685 : Sep G W ((RowE (α := Ev) own 36 vl L) :: Rs) w679 := hS684.sel 6 [1] (Nat.le_add_left _ _) rfl rfl
      refine ⟨L, ?_, ?_, hS685⟩
      · rw [XD hc117 hc130 (by rw [hv9] at hc325; exact hc325) (k := k) (by omega) (by simpa using hc681)]
      · rw [yZ (by rw [XD hc117 hc130 (by rw [hv9] at hc325; exact hc325) (k := k) (by omega) (by simpa using hc681)]; decide)]
   ·skip
    have hc325r := hc325
    have hc325 := yx hc325
    refine zk rfl ?_
    refine zc ?_
    refine za (by kernel_rfl) (fun _ => ?_)
    refine st (zd (v := .int .i64 (9)) rfl ?_)
    refine ze ?_
    refine zw ?_
    refine zL Try.results22 (show _ = (.int .i64 (9) : Value) from rfl) ?_
    have hS686 := hk6 _ _ hS323
    have hS687 : Sep G W ((Blk b #[.int .i64 ((n : Nat) : Int), vl] 78) :: (RowE (α := Ev) own 36 vl L) :: (RowE (α := Int) own 3 v166 (zz n L)) :: (Blk b124 (((zq L (e.origin, e.seq)).getD default).cells v118).toArray 36) :: (RowE (α := Int) own 3 v118 (((zq L (e.origin, e.seq)).getD default).deps)) :: (Blk b13 (e.cells de0).toArray 36) :: Rs) w320 := Sep.openStar hS686
    have hS688 : Sep G W ((RowE (α := Ev) own 36 vl L) :: Rs) w320 := hS687.sel 6 [1] (Nat.le_add_left _ _) rfl rfl
    refine ⟨L, ?_, ?_, hS688⟩
    · rw [Xr hc117 hc130 (by rw [hv9] at hc325; exact hc325)]
    · rw [yZ (by rw [Xr hc117 hc130 (by rw [hv9] at hc325; exact hc325)]; decide)]
  ·skip
   have hc130r := hc130
   refine zk rfl ?_
   refine zc ?_
   refine za (by kernel_rfl) (fun _ => ?_)
   refine st (zd (v := .int .i64 (16)) rfl ?_)
   refine ze ?_
   refine zw ?_
   refine zL Try.results22 (show _ = (.int .i64 (16) : Value) from rfl) ?_
   have hS689 := hk6 _ _ hS129
   have hS690 : Sep G W ((Blk b #[.int .i64 ((n : Nat) : Int), vl] 78) :: (RowE (α := Ev) own 36 vl L) :: (Blk b124 (((zq L (e.origin, e.seq)).getD default).cells v118).toArray 36) :: (RowE (α := Int) own 3 v118 (((zq L (e.origin, e.seq)).getD default).deps)) :: (Blk b13 (e.cells de0).toArray 36) :: Rs) w127 := Sep.openStar hS689
   have hS691 : Sep G W ((RowE (α := Ev) own 36 vl L) :: Rs) w127 := hS690.sel 5 [1] (Nat.le_add_left _ _) rfl rfl
   refine ⟨L, ?_, ?_, hS691⟩
   · rw [XG hc117 hc130]
   · rw [yZ (by rw [XG hc117 hc130]; decide)]
 ·skip
  have hc117r := hc117
  have hc117 := yx hc117
  refine zk rfl ?_
  refine zc ?_
  refine za (by kernel_rfl) (fun _ => ?_)
  refine st (zb (v := .int .i64 ((zI e ((n : Nat) : Int)))) rfl ?_)
  refine st (zd (v := .int .i64 ((zI e ((n : Nat) : Int)))) rfl ?_)
  refine ze ?_
  refine zw ?_
  refine zL Try.results22 (show _ = (.int .i64 ((zI e ((n : Nat) : Int))) : Value) from rfl) ?_
  have hS692 := hk6 _ _ hS115
  have hS693 : Sep G W ((Blk b #[.int .i64 ((n : Nat) : Int), vl] 78) :: (RowE (α := Ev) own 36 vl L) :: (Blk b13 (e.cells de0).toArray 36) :: Rs) w112 := Sep.openStar hS692
  have hS694 : Sep G W ((RowE (α := Ev) own 36 vl L) :: Rs) w112 := hS693.sel 3 [1] (Nat.le_add_left _ _) rfl rfl
  refine ⟨L, ?_, ?_, hS694⟩
  · rw [XE hc117]
  · rw [yZ (by rw [XE hc117]; exact hc117)]

theorem KV {G : Nat → Prop} {W w : World} {Rs : List HP} {b n : Nat} {vl : Value} {L : List Ev} {e : Ev} {de0 : Value} (hde0 : RdS W G de0 e.deps) (oe : e.Ok) (hS0 : Sep G W ((RefP b vl n L) :: Rs) w) (hG : Good n L) (hn : n ≤ 1000) (hL : L.length ≤ 1000000) : Ret Try.prog 22 [.pointer (some ⟨b, 0, none⟩), .agg (e.cells de0).toArray] w (fun r w' => r = (.int .i64 ((zU n L e)) : Value) ∧ Sep G W ((RowE (α := Ev) own 36 vl L) :: Rs) w') := by
  refine Ret.mono (QE hde0 oe hS0 hG hn hL) ?_
  rintro r w' ⟨L1, h1, h2, h3⟩
  exact ⟨h1, h3⟩

end Go.Proofs.Ytmiihhbeclhaoaa
end

section
/- Steps of the proofs of this seat: part D13. -/
set_option maxRecDepth 8000
set_option maxHeartbeats 4000000
namespace Go.Proofs.Ytmiihhbeclhaoaa
open Go.Proofs Go.RowKit

def FirstL (n : Nat) (T B : List Ev) (k : Nat) (c : Int) : Prop := (c = -1 ∧ ∀ i, i < k → xj n T (B.getD i default) = false) ∨ ∃ q : Nat, c = (q : Int) ∧ q < k ∧ xj n T (B.getD q default) = true ∧ ∀ i, i < k → xj n T (B.getD i default) = true → ltE (B.getD i default) (B.getD q default) = false
section
variable {n k : Nat} {T B : List Ev} {c : Int}
theorem FirstL.start : FirstL n T B 0 (-1) := .inl ⟨rfl, fun i h => absurd h (Nat.not_lt_zero i)⟩
theorem FirstL.bd (h : FirstL n T B k c) : -1 ≤ c ∧ c < (k : Int) := by
  rcases h with ⟨h, _⟩ | ⟨q, h, h2, _⟩ <;> omega
theorem FirstL.skip (h : FirstL n T B k c) (hc : (xj n T (B.getD k default) && (decide (c < 0) || ltE (B.getD k default) (B.getD c.toNat default))) = false) : FirstL n T B (k + 1) c := by
  rcases h with ⟨h1, h2⟩ | ⟨q, rfl, hq, h3, h4⟩
  · refine .inl ⟨h1, fun i hi => ?_⟩
    rcases Nat.lt_or_ge i k with h5 | h5
    · exact h2 i h5
    · obtain rfl : i = k := by omega
      rw [decide_eq_true (show c < 0 by omega), Bool.true_or, Bool.and_true] at hc; exact hc
  · refine .inr ⟨q, rfl, by omega, h3, fun i hi h6 => ?_⟩
    rcases Nat.lt_or_ge i k with h5 | h5
    · exact h4 i h5 h6
    · obtain rfl : i = k := by omega
      rw [h6, Bool.true_and, decide_eq_false (show ¬ ((q : Nat) : Int) < 0 by omega), Bool.false_or, Int.toNat_natCast] at hc; exact hc
theorem UF {a b d : Ev} (h1 : ltE a b = true) (h2 : ltE b d = true) : ltE a d = true := xf.2 (Zt (xf.1 h1) (xf.1 h2))
theorem KQ {a : Ev} : ltE a a = false := by
  cases h : ltE a a with
  | false => rfl
  | true => exact absurd (xf.1 h) (xO (xf.1 h))
theorem FirstL.take (h : FirstL n T B k c) (hc : (xj n T (B.getD k default) && (decide (c < 0) || ltE (B.getD k default) (B.getD c.toNat default))) = true) : FirstL n T B (k + 1) ((k : Nat) : Int) := by
  rw [Bool.and_eq_true, Bool.or_eq_true, decide_eq_true_eq] at hc
  refine .inr ⟨k, rfl, Nat.lt_succ_self k, hc.1, fun i hi h6 => ?_⟩
  rcases Nat.lt_or_ge i k with h5 | h5
  · rcases h with ⟨h1, h2⟩ | ⟨q, rfl, hq, h3, h4⟩
    · rw [h2 i h5] at h6; cases h6
    · have h7 := h4 i h5 h6
      rcases hc.2 with h8 | h8
      · omega
      · rw [Int.toNat_natCast] at h8
        cases h9 : ltE (B.getD i default) (B.getD k default) with
        | false => rfl
        | true => rw [UF h9 h8] at h7; cases h7
  · obtain rfl : i = k := by omega
    exact KQ
end
theorem VT {G : Nat → Prop} {W w : World} {Rs : List HP} {b : Nat} {most : Int} {B : List Ev} (hb : (RBufO b most B).p W G) {s : Nat} {n : Nat} {L : List Ev} (hS0 : Sep G W ((RefS s n L) :: Rs) w) (hmost : InR most) (hG : Good n L) (hn : n ≤ 1000) (hL : L.length ≤ 1000000) : Ret Try.prog 60 [.pointer (some ⟨b, 0, none⟩), .pointer (some ⟨s, 0, none⟩)] w (fun r w' => ∃ (c : Int), r = (.int .i64 (c) : Value) ∧ (InR c) ∧ (FirstL n L B B.length c) ∧ Sep G W ((RefS s n L) :: Rs) w') := by
 refine zp (args := [.pointer (some ⟨b, 0, none⟩), .pointer (some ⟨s, 0, none⟩)]) Try.func60 rfl rfl ?_
 obtain ⟨vl1, hS2⟩ := RefS.open hS0
 have hS2t : Sep G W ((Blk s #[.int .i64 ((n : Nat) : Int), vl1] 78) :: (RowE (α := Ev) own 36 vl1 L) :: Rs) w := hS2
 have hr3 := hS2t.row (i := 1) rfl
 have hr3s : _ * 96 ≤ _ := hr3.2
 obtain ⟨vl4, hb5, hl6⟩ := RBufO.sh hb
 have hsm7 : B.length * 96 ≤ 140737488355328 := hl6.small
 refine zc ?_
 refine za (by kernel_rfl) (fun _ => ?_)
 refine st (zd (v := .int .i64 (0)) rfl ?_)
 refine ze ?_
 refine zc ?_
 refine za (by kernel_rfl) (fun _ => ?_)
 refine st (zd (v := .int .i64 (-1)) rfl ?_)
 refine ze ?_
 refine zc ?_
 refine zc ?_
 refine za (by kernel_rfl) (fun _ => ?_)
 refine st (zd (v := .int .i64 (0)) rfl ?_)
 refine ze ?_
 refine zt ?_
 refine zP (fun mq σ wq => ∃ (k : Nat) (c9 : Int) (ρ : Env), mq = B.length - k ∧ σ = zQ ρ [(0, .pointer (some ⟨b, 0, none⟩)), (1, .pointer (some ⟨s, 0, none⟩)), (5, .int .i64 (c9)), (6, .int .i64 ((k : Nat) : Int))] ∧ (k ≤ B.length) ∧ (InR c9) ∧ (FirstL n L B k c9) ∧ Sep G W ((Blk s #[.int .i64 ((n : Nat) : Int), vl1] 78) :: (RowE (α := Ev) own 36 vl1 L) :: Rs) wq) ⟨0, (-1), _, rfl, zh ⟨rfl, rfl, rfl, rfl, trivial⟩, Nat.zero_le _, (by decide), FirstL.start, hS2t⟩ ?_
 rintro m9 σ10 w8 ⟨k, c9, ρl1, rfl, rfl, hkk, hcI9, hF9, hS11⟩
 have hbd9 := hF9.bd
 refine zc ?_
 refine zc ?_
 refine za (by kernel_rfl) (fun _ => ?_)
 refine st (zb (v := .int .i64 ((k : Nat) : Int)) rfl ?_)
 refine st (zb (v := .pointer (some ⟨b, 0, none⟩)) rfl ?_)
 refine st (zn (b := b) (o := 0) rfl ?_)
 refine st (yS rfl ?_)
 refine st (zg (v := vl4) Try.isAgg22 rfl (zf (hS11.gblk hb5) rfl) ?_)
 refine st (zJ (n := B.length) Try.underlying22 rfl hl6.sl ?_)
 refine st (zH (k := .i64) (a := ((k : Nat) : Int)) (b := ((B.length : Nat) : Int)) rfl rfl ?_)
 refine ze ?_
 cases hc12 : decide (((k : Nat) : Int) < ((B.length : Nat) : Int))
 ·skip
  have hc12r := hc12
  have hc12 := of_decide_eq_false hc12
  refine zi rfl ?_
  refine zO ?_
  refine zF ?_
  refine zc ?_
  refine za (by kernel_rfl) (fun _ => ?_)
  refine st (zb (v := .int .i64 (c9)) rfl ?_)
  refine st (zd (v := .int .i64 (c9)) rfl ?_)
  refine ze ?_
  refine zw ?_
  refine zL Try.results60 (show _ = (.int .i64 (c9) : Value) from rfl) ?_
  have hS13 : Sep G W ((RefS s n L) :: Rs) w8 := RefS.close (n := n) (L := L) hS11
  refine ⟨c9, ?_, ?_, ?_, hS13⟩
  · rfl
  · exact hcI9
  · rw [show B.length = k by omega]; exact hF9
 ·skip
  have hc12r := hc12
  have hc12 := of_decide_eq_true hc12
  refine zk rfl ?_
  refine zo ?_
  refine zc ?_
  refine zt ?_
  refine zc ?_
  refine zM ((fun TT pp0 => WF [fun vals wq => Sep G W (pp0 :: TT) wq, fun vals wq => ∃ (b88 : Nat), (vals 9 = (.pointer (some ⟨b88, 0, none⟩) : Value)) ∧ Sep G W ((Blk b88 #[.int .i64 ((n : Nat) : Int), vl1] 78) :: pp0 :: TT) wq]) ((RowE (α := Ev) own 36 vl1 L) :: Rs) (Blk s #[.int .i64 ((n : Nat) : Int), vl1] 78)) (AF [Vl 0 (.pointer (some ⟨s, 0, none⟩)), Vl 1 (.pointer (some ⟨s, 0, none⟩)), Vl 2 (.pointer (some ⟨s, 0, none⟩)), Vl 3 (.int .i64 ((n : Nat) : Int)), Vl 4 (.pointer (some ⟨s, 0, none⟩)), Vl 5 (.pointer (some ⟨s, 0, none⟩)), Vl 6 (.pointer (some ⟨s, 1, none⟩)), Vl 7 (vl1), Vl 8 (.agg #[.int .i64 ((n : Nat) : Int), vl1]), fun _ => True, fun vals => ∀ (b88 : Nat), vals 9 = (.pointer (some ⟨b88, 0, none⟩) : Value) → vals 10 = (.pointer (some ⟨b88, 0, none⟩) : Value)]) [[], [0], [0, 1], [0, 1, 2], [], [4], [4, 5], [4, 5, 6], [0, 1, 2, 3, 4, 5, 6, 7], [0, 1, 2, 3, 4, 5, 6, 7, 8], [0, 1, 2, 3, 4, 5, 6, 7, 8, 9]] [9] [(0, 0), (0, 0), (0, 0), (0, 0), (0, 0), (0, 0), (0, 0), (0, 0), (0, 0), (0, 0), (1, 1)] (by kernel_rfl) (by kernel_rfl) (by kernel_rfl) rfl (by kernel_rfl) (by kernel_rfl) (fun _ h1 h2 h3 h4 _ => hS11.same h1 h2 h3 h4) ?_ (yc ⟨dA, dA, dA, dA, dA, dA, dA, dA, dA, dT, fun vals vals' hv h => fun b88 hq0 => (hv 10 (.inl rfl)).trans (h b88 ((hv 9 (.inr (by decide))).symm.trans hq0)), trivial⟩) ⟨?_, ?_, ?_, ?_, ?_, ?_, ?_, ?_, ?_, ?_, ?_, trivial⟩ ?_
  ·intro k vals vals' w hv h
   have e : ∀ j ∈ ([9] : List Nat), vals' j = vals j := hv
   match k, h with
   | 0, h => exact h
   | 1, h => exact (by simpa only [WF, List.getElem?_cons_zero, List.getElem?_cons_succ, e 9 (by decide)] using h)
   | _ + 2, _ => trivial
  ·intro k99 vals w100 h103 h104 hW102 hA101
   refine obl rfl ?_
   exact zb (v := .pointer (some ⟨s, 0, none⟩)) rfl (fun vals' hv _ => ⟨rfl, hv⟩)
  ·intro k105 vals w106 h109 h110 hW108 hA107
   have e111 := hA107 0 (by decide)
   refine obl rfl ?_
   exact zn (b := s) (o := 0) e111 (fun vals' hv _ => ⟨rfl, hv⟩)
  ·intro k112 vals w113 h116 h117 hW115 hA114
   have e118 := hA114 1 (by decide)
   refine obl rfl ?_
   exact Zc e118 (fun vals' hv _ => ⟨rfl, hv⟩)
  ·intro k119 vals w120 h123 h124 hW122 hA121
   obtain rfl : k119 = 0 := Nat.le_antisymm h124 h123
   have hS125 : Sep _ _ _ _ := hW122
   have e126 := hA121 2 (by decide)
   refine obl rfl ?_
   exact zg (v := .int .i64 ((n : Nat) : Int)) Try.isAgg3 e126 (zf (hS125.blk (i := 0) rfl) rfl) (fun vals' hv _ => ⟨rfl, hv⟩)
  ·intro k127 vals w128 h131 h132 hW130 hA129
   refine obl rfl ?_
   exact zb (v := .pointer (some ⟨s, 0, none⟩)) rfl (fun vals' hv _ => ⟨rfl, hv⟩)
  ·intro k133 vals w134 h137 h138 hW136 hA135
   have e139 := hA135 4 (by decide)
   refine obl rfl ?_
   exact zn (b := s) (o := 0) e139 (fun vals' hv _ => ⟨rfl, hv⟩)
  ·intro k140 vals w141 h144 h145 hW143 hA142
   have e146 := hA142 5 (by decide)
   refine obl rfl ?_
   exact yI e146 (fun vals' hv _ => ⟨rfl, hv⟩)
  ·intro k147 vals w148 h151 h152 hW150 hA149
   obtain rfl : k147 = 0 := Nat.le_antisymm h152 h151
   have hS153 : Sep _ _ _ _ := hW150
   have e154 := hA149 6 (by decide)
   refine obl rfl ?_
   exact zg (v := vl1) Try.isAgg22 e154 (zf (hS153.blk (i := 0) rfl) rfl) (fun vals' hv _ => ⟨rfl, hv⟩)
  ·intro k155 vals w156 h159 h160 hW158 hA157
   have e161 := hA157 3 (by decide)
   have e162 := hA157 7 (by decide)
   refine obl rfl ?_
   exact yP (parts' := [(0, .int .i64 ((n : Nat) : Int)), (1, vl1)]) (v := .agg #[.int .i64 ((n : Nat) : Int), vl1]) (Ve ⟨rfl, e161, rfl, e162, trivial⟩) (by obtain ⟨_, _, hv163, _⟩ := hr3.1; rw [show vl1 = Value.slice _ _ _ from hv163]; simp [Instr.build, Instr.fill, go_sem]) (fun vals' hv _ => ⟨rfl, hv⟩)
  ·intro k79 vals w80 h83 h84 hW82 hA81
   obtain rfl : k79 = 0 := Nat.le_antisymm h84 h83
   have hS85 : Sep _ _ _ _ := hW82
   have e86 := hA81 8 (by decide)
   refine obl rfl ?_
   refine (yg (v := .agg #[.int .i64 ((n : Nat) : Int), vl1]) e86 ?_)
   intro w89 b88 hn87
   have hS90 := hS85.new hn87
   intro vals' hv hv'
   refine ⟨?_, trivial⟩
   show ∃ (b88 : Nat), (vals' 9 = (.pointer (some ⟨b88, 0, none⟩) : Value)) ∧ Sep G W ((Blk b88 #[.int .i64 ((n : Nat) : Int), vl1] 78) :: (Blk s #[.int .i64 ((n : Nat) : Int), vl1] 78) :: (RowE (α := Ev) own 36 vl1 L) :: Rs) w89
   exact ⟨b88, hv, hS90⟩
  ·intro k164 vals w165 h168 h169 hW167 hA166
   obtain rfl : k164 = 1 := Nat.le_antisymm h169 h168
   obtain ⟨b88, he91, hS170⟩ := hW167
   refine obl rfl ?_
   refine zd (v := .pointer (some ⟨b88, 0, none⟩)) he91 (fun vals' hv hv' => ⟨rfl, ?_⟩)
   intro b88q hq0
   rw [hv' 9 (by decide)] at hq0; cases he91.symm.trans hq0
   exact hv
  intro vals w171 hW172 hA173
  obtain ⟨b88, he91, hS174⟩ := hW172
  have e175 : vals 10 = (.pointer (some ⟨b88, 0, none⟩) : Value) := hA173 10 (by decide) b88 he91
  refine yb (kv := [(0, .pointer (some ⟨b, 0, none⟩)), (1, .pointer (some ⟨s, 0, none⟩)), (5, .int .i64 (c9)), (6, .int .i64 ((k : Nat) : Int)), (8, .int .i64 ((k : Nat) : Int)), (9, .pointer (some ⟨b, 0, none⟩)), (10, .pointer (some ⟨b, 0, none⟩)), (11, .pointer (some ⟨b, 1, none⟩)), (12, vl4), (13, .int .i64 ((B.length : Nat) : Int)), (14, .bool true), (7, .pointer (some ⟨b88, 0, none⟩))]) ⟨rfl, rfl, rfl, rfl, rfl, rfl, rfl, rfl, rfl, rfl, rfl, (by exact e175), trivial⟩ (fun ρw171 => ?_)
  refine ze ?_
  refine zc ?_
  have hS176 : Sep G W ((Blk b88 #[.int .i64 ((n : Nat) : Int), vl1] 78) :: (RowE (α := Ev) own 36 vl1 L) :: (Blk s #[.int .i64 ((n : Nat) : Int), vl1] 78) :: Rs) w171 := hS174.sel 3 [0, 2, 1] (Nat.le_add_left _ _) rfl rfl
  have hS177 : Sep G W ((RefP b88 vl1 n L) :: (Blk s #[.int .i64 ((n : Nat) : Int), vl1] 78) :: Rs) w171 := Sep.closeStar (Bs := [(Blk b88 #[.int .i64 ((n : Nat) : Int), vl1] 78), (RowE (α := Ev) own 36 vl1 L)]) hS176
  refine zM ((fun TT pp0 => WF [fun vals wq => Sep G W ((RefP b88 vl1 n L) :: TT) wq, fun vals wq => (vals 8 = (.int .i64 ((zU n L (B.getD k default))) : Value)) ∧ Sep G W (pp0 :: TT) wq, fun vals wq => (vals 8 = (.int .i64 ((zU n L (B.getD k default))) : Value)) ∧ (vals 28 = (if ((decide ((zU n L (B.getD k default)) = 0)) = true) ∧ (decide (c9 < 0)) = false then (.bool ((ltE (B.getD k default) (B.getD c9.toNat default))) : Value) else undef)) ∧ Sep G W (pp0 :: TT) wq]) ((Blk s #[.int .i64 ((n : Nat) : Int), vl1] 78) :: Rs) (RowE (α := Ev) own 36 vl1 L)) (AF [Vl 0 (.pointer (some ⟨b88, 0, none⟩)), Vl 1 (.pointer (some ⟨b, 0, none⟩)), Vl 2 (.pointer (some ⟨b, 0, none⟩)), Vl 3 (.pointer (some ⟨b, 1, none⟩)), Vl 4 (vl4), Vl 5 (.int .i64 ((k : Nat) : Int)), Vl 6 (.pointer (some ⟨sb vl4, so vl4 + k * 10, none⟩)), Vl 7 (.agg ((B.getD k default).cells (zT W (sb vl4) (so vl4 + k * 10 + 3))).toArray), fun _ => True, Vl 9 (.bool (decide ((zU n L (B.getD k default)) = 0))), Vl 10 (.bool (decide ((zU n L (B.getD k default)) = 0))), Vl 11 (if (decide ((zU n L (B.getD k default)) = 0)) = true then .int .i64 (c9) else undef), Vl 12 (if (decide ((zU n L (B.getD k default)) = 0)) = true then .bool (decide (c9 < 0)) else undef), Vl 13 (if (decide ((zU n L (B.getD k default)) = 0)) = true then .bool (decide (c9 < 0)) else undef), Vl 14 (if ((decide ((zU n L (B.getD k default)) = 0)) = true) ∧ (decide (c9 < 0)) = false then .pointer (some ⟨b, 0, none⟩) else undef), Vl 15 (if ((decide ((zU n L (B.getD k default)) = 0)) = true) ∧ (decide (c9 < 0)) = false then .pointer (some ⟨b, 0, none⟩) else undef), Vl 16 (if ((decide ((zU n L (B.getD k default)) = 0)) = true) ∧ (decide (c9 < 0)) = false then .pointer (some ⟨b, 1, none⟩) else undef), Vl 17 (if ((decide ((zU n L (B.getD k default)) = 0)) = true) ∧ (decide (c9 < 0)) = false then vl4 else undef), Vl 18 (if ((decide ((zU n L (B.getD k default)) = 0)) = true) ∧ (decide (c9 < 0)) = false then .int .i64 ((k : Nat) : Int) else undef), Vl 19 (if ((decide ((zU n L (B.getD k default)) = 0)) = true) ∧ (decide (c9 < 0)) = false then .pointer (some ⟨sb vl4, so vl4 + k * 10, none⟩) else undef), Vl 20 (if ((decide ((zU n L (B.getD k default)) = 0)) = true) ∧ (decide (c9 < 0)) = false then .agg ((B.getD k default).cells (zT W (sb vl4) (so vl4 + k * 10 + 3))).toArray else undef), Vl 21 (if ((decide ((zU n L (B.getD k default)) = 0)) = true) ∧ (decide (c9 < 0)) = false then .pointer (some ⟨b, 0, none⟩) else undef), Vl 22 (if ((decide ((zU n L (B.getD k default)) = 0)) = true) ∧ (decide (c9 < 0)) = false then .pointer (some ⟨b, 0, none⟩) else undef), Vl 23 (if ((decide ((zU n L (B.getD k default)) = 0)) = true) ∧ (decide (c9 < 0)) = false then .pointer (some ⟨b, 1, none⟩) else undef), Vl 24 (if ((decide ((zU n L (B.getD k default)) = 0)) = true) ∧ (decide (c9 < 0)) = false then vl4 else undef), Vl 25 (if ((decide ((zU n L (B.getD k default)) = 0)) = true) ∧ (decide (c9 < 0)) = false then .int .i64 (c9) else undef), Vl 26 (if ((decide ((zU n L (B.getD k default)) = 0)) = true) ∧ (decide (c9 < 0)) = false then .pointer (some ⟨sb vl4, so vl4 + c9.toNat * 10, none⟩) else undef), Vl 27 (if ((decide ((zU n L (B.getD k default)) = 0)) = true) ∧ (decide (c9 < 0)) = false then .agg ((B.getD c9.toNat default).cells (zT W (sb vl4) (so vl4 + c9.toNat * 10 + 3))).toArray else undef), fun _ => True, Vl 29 (if (decide ((zU n L (B.getD k default)) = 0)) = true then .bool ((decide (c9 < 0)) || (ltE (B.getD k default) (B.getD c9.toNat default))) else undef), Vl 30 (.bool ((decide ((zU n L (B.getD k default)) = 0)) && ((decide (c9 < 0)) || (ltE (B.getD k default) (B.getD c9.toNat default)))))]) [[], [], [1], [1, 2], [1, 2, 3], [], [1, 2, 3, 4, 5], [1, 2, 3, 4, 5, 6], [0, 1, 2, 3, 4, 5, 6, 7], [0, 1, 2, 3, 4, 5, 6, 7, 8], [0, 1, 2, 3, 4, 5, 6, 7, 8, 9], [0, 1, 2, 3, 4, 5, 6, 7, 8, 9, 10], [0, 1, 2, 3, 4, 5, 6, 7, 8, 9, 10, 11], [0, 1, 2, 3, 4, 5, 6, 7, 8, 9, 10, 11, 12], [0, 1, 2, 3, 4, 5, 6, 7, 8, 9, 10, 11, 12, 13], [0, 1, 2, 3, 4, 5, 6, 7, 8, 9, 10, 11, 12, 13, 14], [0, 1, 2, 3, 4, 5, 6, 7, 8, 9, 10, 11, 12, 13, 14, 15], [0, 1, 2, 3, 4, 5, 6, 7, 8, 9, 10, 11, 12, 13, 14, 15, 16], [0, 1, 2, 3, 4, 5, 6, 7, 8, 9, 10, 11, 12, 13], [0, 1, 2, 3, 4, 5, 6, 7, 8, 9, 10, 11, 12, 13, 14, 15, 16, 17, 18], [0, 1, 2, 3, 4, 5, 6, 7, 8, 9, 10, 11, 12, 13, 14, 15, 16, 17, 18, 19], [0, 1, 2, 3, 4, 5, 6, 7, 8, 9, 10, 11, 12, 13], [0, 1, 2, 3, 4, 5, 6, 7, 8, 9, 10, 11, 12, 13, 21], [0, 1, 2, 3, 4, 5, 6, 7, 8, 9, 10, 11, 12, 13, 21, 22], [0, 1, 2, 3, 4, 5, 6, 7, 8, 9, 10, 11, 12, 13, 21, 22, 23], [0, 1, 2, 3, 4, 5, 6, 7, 8, 9, 10, 11, 12, 13], [0, 1, 2, 3, 4, 5, 6, 7, 8, 9, 10, 11, 12, 13, 21, 22, 23, 24, 25], [0, 1, 2, 3, 4, 5, 6, 7, 8, 9, 10, 11, 12, 13, 21, 22, 23, 24, 25, 26], [0, 1, 2, 3, 4, 5, 6, 7, 8, 9, 10, 11, 12, 13, 14, 15, 16, 17, 18, 19, 20, 21, 22, 23, 24, 25, 26, 27], [0, 1, 2, 3, 4, 5, 6, 7, 8, 9, 10, 11, 12, 13, 14, 15, 16, 17, 18, 19, 20, 21, 22, 23, 24, 25, 26, 27, 28], [0, 1, 2, 3, 4, 5, 6, 7, 8, 9, 10, 11, 12, 13, 14, 15, 16, 17, 18, 19, 20, 21, 22, 23, 24, 25, 26, 27, 28, 29]] [8, 28] [(0, 0), (0, 0), (0, 0), (0, 0), (0, 0), (0, 0), (0, 0), (0, 0), (0, 0), (1, 1), (1, 1), (1, 1), (1, 1), (1, 1), (1, 1), (1, 1), (1, 1), (1, 1), (1, 1), (1, 1), (1, 1), (1, 1), (1, 1), (1, 1), (1, 1), (1, 1), (1, 1), (1, 1), (1, 1), (2, 2), (2, 2)] (by kernel_rfl) (by kernel_rfl) (by kernel_rfl) rfl (by kernel_rfl) (by kernel_rfl) (fun _ h1 h2 h3 h4 _ => hS177.same h1 h2 h3 h4) ?_ (yc ⟨dA, dA, dA, dA, dA, dA, dA, dA, dT, dA, dA, dA, dA, dA, dA, dA, dA, dA, dA, dA, dA, dA, dA, dA, dA, dA, dA, dA, dT, dA, dA, trivial⟩) ⟨?_, ?_, ?_, ?_, ?_, ?_, ?_, ?_, ?_, ?_, ?_, ?_, ?_, ?_, ?_, ?_, ?_, ?_, ?_, ?_, ?_, ?_, ?_, ?_, ?_, ?_, ?_, ?_, ?_, ?_, ?_, trivial⟩ ?_
  ·intro k vals vals' w hv h
   have e : ∀ j ∈ ([8, 28] : List Nat), vals' j = vals j := hv
   match k, h with
   | 0, h => exact h
   | 1, h => exact (by simpa only [WF, List.getElem?_cons_zero, List.getElem?_cons_succ, e 8 (by decide)] using h)
   | 2, h => exact (by simpa only [WF, List.getElem?_cons_zero, List.getElem?_cons_succ, e 8 (by decide), e 28 (by decide)] using h)
   | _ + 3, _ => trivial
  ·intro k512 vals w513 h516 h517 hW515 hA514
   refine obl rfl ?_
   exact zb (v := .pointer (some ⟨b88, 0, none⟩)) rfl (fun vals' hv _ => ⟨rfl, hv⟩)
  ·intro k518 vals w519 h522 h523 hW521 hA520
   refine obl rfl ?_
   exact zb (v := .pointer (some ⟨b, 0, none⟩)) rfl (fun vals' hv _ => ⟨rfl, hv⟩)
  ·intro k524 vals w525 h528 h529 hW527 hA526
   have e530 := hA526 1 (by decide)
   refine obl rfl ?_
   exact zn (b := b) (o := 0) e530 (fun vals' hv _ => ⟨rfl, hv⟩)
  ·intro k531 vals w532 h535 h536 hW534 hA533
   have e537 := hA533 2 (by decide)
   refine obl rfl ?_
   exact yS e537 (fun vals' hv _ => ⟨rfl, hv⟩)
  ·intro k538 vals w539 h542 h543 hW541 hA540
   obtain rfl : k538 = 0 := Nat.le_antisymm h543 h542
   have hS544 : Sep _ _ _ _ := hW541
   have e545 := hA540 3 (by decide)
   refine obl rfl ?_
   exact zg (v := vl4) Try.isAgg22 e545 (zf (hS544.gblk hb5) rfl) (fun vals' hv _ => ⟨rfl, hv⟩)
  ·intro k546 vals w547 h550 h551 hW549 hA548
   refine obl rfl ?_
   exact zb (v := .int .i64 ((k : Nat) : Int)) rfl (fun vals' hv _ => ⟨rfl, hv⟩)
  ·intro k552 vals w553 h556 h557 hW555 hA554
   obtain rfl : k552 = 0 := Nat.le_antisymm h557 h556
   have hS558 : Sep _ _ _ _ := hW555
   have e559 := hA554 4 (by decide)
   have e560 := hA554 5 (by decide)
   refine obl rfl ?_
   have hi561 : k < B.length := (by first | omega | (simp only [lens]; omega))
   exact zl (k := 10) (i := k) Try.underlying22 Try.sizeOf36 e559 hl6.sl e560 hi561 (fun vals' hv _ => ⟨rfl, hv⟩)
  ·intro k562 vals w563 h566 h567 hW565 hA564
   obtain rfl : k562 = 0 := Nat.le_antisymm h567 h566
   have hS568 : Sep _ _ _ _ := hW565
   have e569 := hA564 6 (by decide)
   refine obl rfl ?_
   have hi571 : k < B.length := (by first | omega | (simp only [lens]; omega))
   obtain ⟨hce570, hde570_0, hoke570⟩ := hl6.ev hi571
   rw [← zm default hi571] at hce570 hde570_0 hoke570
   have hsm572 : ((B.getD k default).deps).length * 8 ≤ 140737488355328 := hde570_0.small
   have hcw573 := hS568.cells hce570 (hl6.foot (ne_of_lt hi571))
   exact zr (k := 10) Try.isAgg36 Try.sizeOf36 rfl e569 hcw573 (fun vals' hv _ => ⟨rfl, hv⟩)
  ·intro k240 vals w241 h244 h245 hW243 hA242
   obtain rfl : k240 = 0 := Nat.le_antisymm h245 h244
   have hS246 : Sep _ _ _ _ := hW243
   have e247 := hA242 0 (by decide)
   have e248 := hA242 7 (by decide)
   refine obl rfl ?_
   have hi250 : k < B.length := (by first | omega | (simp only [lens]; omega))
   obtain ⟨hce249, hde249_0, hoke249⟩ := hl6.ev hi250
   rw [← zm default hi250] at hce249 hde249_0 hoke249
   have hsm251 : ((B.getD k default).deps).length * 8 ≤ 140737488355328 := hde249_0.small
   have hcw252 := hS246.cells hce249 (hl6.foot (ne_of_lt hi250))
   refine (zj (f := 22) (vals := [.pointer (some ⟨b88, 0, none⟩), .agg ((B.getD k default).cells (zT W (sb vl4) (so vl4 + k * 10 + 3))).toArray]) (cap := []) rfl (xc ⟨e247, e248, trivial⟩) Try.call22 (KV (e := (B.getD k default)) hde249_0 hoke249 hS246 (by first | omega | (simp only [lens]; omega)) (by first | omega | (simp only [lens]; omega)) (by first | omega | (simp only [lens]; omega))) ?_)
   rintro _ w253 ⟨rfl, hS254⟩
   have hr255 := hS254.row (i := 0) rfl
   have hr255s : _ * 96 ≤ _ := hr255.2
   intro vals' hv hv'
   refine ⟨?_, trivial⟩
   show (vals' 8 = (.int .i64 ((zU n L (B.getD k default))) : Value)) ∧ Sep G W ((RowE (α := Ev) own 36 vl1 L) :: (Blk s #[.int .i64 ((n : Nat) : Int), vl1] 78) :: Rs) w253
   exact ⟨hv, hS254⟩
  ·intro k574 vals w575 h578 h579 hW577 hA576
   obtain rfl : k574 = 1 := Nat.le_antisymm h579 h578
   obtain ⟨he256, hS580⟩ := hW577
   refine obl rfl ?_
   exact yq (k := .i64) (a := (zU n L (B.getD k default))) (b := 0) he256 rfl (fun vals' hv _ => ⟨rfl, hv⟩)
  ·intro k581 vals w582 h585 h586 hW584 hA583
   have e587 := hA583 9 (by decide)
   refine obl rfl ?_
   exact zb (v := .bool (decide ((zU n L (B.getD k default)) = 0))) e587 (fun vals' hv _ => ⟨rfl, hv⟩)
  ·intro k588 vals w589 h592 h593 hW591 hA590
   have e594 := hA590 10 (by decide)
   refine yT rfl rfl e594 (fun hb595 => ?_) (fun hb595 => fun vals' hv _ => ⟨trivial, hv.trans (if_neg hb595).symm⟩)
   have hl596 := hb595
   have hl596 := of_decide_eq_true hl596
   exact zb (v := .int .i64 (c9)) rfl (fun vals' hv _ => ⟨rfl, hv.trans (if_pos hb595).symm⟩)
  ·intro k597 vals w598 h601 h602 hW600 hA599
   obtain rfl : k597 = 1 := Nat.le_antisymm h602 h601
   obtain ⟨he256, hS603⟩ := hW600
   have e604 := hA599 10 (by decide)
   have e605 : vals 11 = (if (decide ((zU n L (B.getD k default)) = 0)) = true then (.int .i64 (c9) : Value) else undef) := hA599 11 (by decide)
   refine yT rfl rfl e604 (fun hb606 => ?_) (fun hb606 => fun vals' hv _ => ⟨trivial, hv.trans (if_neg hb606).symm⟩)
   have hl607 := hb606
   have hl607 := of_decide_eq_true hl607
   exact zH (k := .i64) (a := c9) (b := 0) (show _ = (.int .i64 (c9) : Value) from (Eq.trans e605 (if_pos hb606))) rfl (fun vals' hv _ => ⟨rfl, hv.trans (if_pos hb606).symm⟩)
  ·intro k608 vals w609 h612 h613 hW611 hA610
   have e614 := hA610 10 (by decide)
   have e615 : vals 12 = (if (decide ((zU n L (B.getD k default)) = 0)) = true then (.bool (decide (c9 < 0)) : Value) else undef) := hA610 12 (by decide)
   refine yT rfl rfl e614 (fun hb616 => ?_) (fun hb616 => fun vals' hv _ => ⟨trivial, hv.trans (if_neg hb616).symm⟩)
   have hl617 := hb616
   have hl617 := of_decide_eq_true hl617
   exact zb (v := .bool (decide (c9 < 0))) (show _ = (.bool (decide (c9 < 0)) : Value) from (Eq.trans e615 (if_pos hb616))) (fun vals' hv _ => ⟨rfl, hv.trans (if_pos hb616).symm⟩)
  ·intro k618 vals w619 h622 h623 hW621 hA620
   have e624 : vals 13 = (if (decide ((zU n L (B.getD k default)) = 0)) = true then (.bool (decide (c9 < 0)) : Value) else undef) := hA620 13 (by decide)
   refine xD rfl rfl e624 (fun hb625 => ?_) (fun hb625 => fun vals' hv _ => ⟨trivial, hv.trans (if_neg hb625).symm⟩)
   have hl626 := hb625.1
   have hl626 := of_decide_eq_true hl626
   have hl627 := hb625.2
   have hl627 := of_decide_eq_false hl627
   exact zb (v := .pointer (some ⟨b, 0, none⟩)) rfl (fun vals' hv _ => ⟨rfl, hv.trans (if_pos hb625).symm⟩)
  ·intro k628 vals w629 h632 h633 hW631 hA630
   have e634 : vals 13 = (if (decide ((zU n L (B.getD k default)) = 0)) = true then (.bool (decide (c9 < 0)) : Value) else undef) := hA630 13 (by decide)
   have e635 : vals 14 = (if ((decide ((zU n L (B.getD k default)) = 0)) = true) ∧ (decide (c9 < 0)) = false then (.pointer (some ⟨b, 0, none⟩) : Value) else undef) := hA630 14 (by decide)
   refine xD rfl rfl e634 (fun hb636 => ?_) (fun hb636 => fun vals' hv _ => ⟨trivial, hv.trans (if_neg hb636).symm⟩)
   have hl637 := hb636.1
   have hl637 := of_decide_eq_true hl637
   have hl638 := hb636.2
   have hl638 := of_decide_eq_false hl638
   exact zn (b := b) (o := 0) (show _ = (.pointer (some ⟨b, 0, none⟩) : Value) from (Eq.trans e635 (if_pos ⟨hb636.1, hb636.2⟩))) (fun vals' hv _ => ⟨rfl, hv.trans (if_pos hb636).symm⟩)
  ·intro k639 vals w640 h643 h644 hW642 hA641
   have e645 : vals 13 = (if (decide ((zU n L (B.getD k default)) = 0)) = true then (.bool (decide (c9 < 0)) : Value) else undef) := hA641 13 (by decide)
   have e646 : vals 15 = (if ((decide ((zU n L (B.getD k default)) = 0)) = true) ∧ (decide (c9 < 0)) = false then (.pointer (some ⟨b, 0, none⟩) : Value) else undef) := hA641 15 (by decide)
   refine xD rfl rfl e645 (fun hb647 => ?_) (fun hb647 => fun vals' hv _ => ⟨trivial, hv.trans (if_neg hb647).symm⟩)
   have hl648 := hb647.1
   have hl648 := of_decide_eq_true hl648
   have hl649 := hb647.2
   have hl649 := of_decide_eq_false hl649
   exact yS (show _ = (.pointer (some ⟨b, 0, none⟩) : Value) from (Eq.trans e646 (if_pos ⟨hb647.1, hb647.2⟩))) (fun vals' hv _ => ⟨rfl, hv.trans (if_pos hb647).symm⟩)
  ·intro k650 vals w651 h654 h655 hW653 hA652
   obtain rfl : k650 = 1 := Nat.le_antisymm h655 h654
   obtain ⟨he256, hS656⟩ := hW653
   have e657 : vals 13 = (if (decide ((zU n L (B.getD k default)) = 0)) = true then (.bool (decide (c9 < 0)) : Value) else undef) := hA652 13 (by decide)
   have e658 : vals 16 = (if ((decide ((zU n L (B.getD k default)) = 0)) = true) ∧ (decide (c9 < 0)) = false then (.pointer (some ⟨b, 1, none⟩) : Value) else undef) := hA652 16 (by decide)
   refine xD rfl rfl e657 (fun hb659 => ?_) (fun hb659 => fun vals' hv _ => ⟨trivial, hv.trans (if_neg hb659).symm⟩)
   have hl660 := hb659.1
   have hl660 := of_decide_eq_true hl660
   have hl661 := hb659.2
   have hl661 := of_decide_eq_false hl661
   exact zg (v := vl4) Try.isAgg22 (show _ = (.pointer (some ⟨b, 1, none⟩) : Value) from (Eq.trans e658 (if_pos ⟨hb659.1, hb659.2⟩))) (zf (hS656.gblk hb5) rfl) (fun vals' hv _ => ⟨rfl, hv.trans (if_pos hb659).symm⟩)
  ·intro k662 vals w663 h666 h667 hW665 hA664
   have e668 : vals 13 = (if (decide ((zU n L (B.getD k default)) = 0)) = true then (.bool (decide (c9 < 0)) : Value) else undef) := hA664 13 (by decide)
   refine xD rfl rfl e668 (fun hb669 => ?_) (fun hb669 => fun vals' hv _ => ⟨trivial, hv.trans (if_neg hb669).symm⟩)
   have hl670 := hb669.1
   have hl670 := of_decide_eq_true hl670
   have hl671 := hb669.2
   have hl671 := of_decide_eq_false hl671
   exact zb (v := .int .i64 ((k : Nat) : Int)) rfl (fun vals' hv _ => ⟨rfl, hv.trans (if_pos hb669).symm⟩)
  ·intro k672 vals w673 h676 h677 hW675 hA674
   obtain rfl : k672 = 1 := Nat.le_antisymm h677 h676
   obtain ⟨he256, hS678⟩ := hW675
   have e679 : vals 13 = (if (decide ((zU n L (B.getD k default)) = 0)) = true then (.bool (decide (c9 < 0)) : Value) else undef) := hA674 13 (by decide)
   have e680 : vals 17 = (if ((decide ((zU n L (B.getD k default)) = 0)) = true) ∧ (decide (c9 < 0)) = false then (vl4 : Value) else undef) := hA674 17 (by decide)
   have e681 : vals 18 = (if ((decide ((zU n L (B.getD k default)) = 0)) = true) ∧ (decide (c9 < 0)) = false then (.int .i64 ((k : Nat) : Int) : Value) else undef) := hA674 18 (by decide)
   refine xD rfl rfl e679 (fun hb682 => ?_) (fun hb682 => fun vals' hv _ => ⟨trivial, hv.trans (if_neg hb682).symm⟩)
   have hl683 := hb682.1
   have hl683 := of_decide_eq_true hl683
   have hl684 := hb682.2
   have hl684 := of_decide_eq_false hl684
   have hi685 : k < B.length := (by first | omega | (simp only [lens]; omega))
   exact zl (k := 10) (i := k) Try.underlying22 Try.sizeOf36 (show _ = (vl4 : Value) from (Eq.trans e680 (if_pos ⟨hb682.1, hb682.2⟩))) hl6.sl (show _ = (.int .i64 ((k : Nat) : Int) : Value) from (Eq.trans e681 (if_pos ⟨hb682.1, hb682.2⟩))) hi685 (fun vals' hv _ => ⟨rfl, hv.trans (if_pos hb682).symm⟩)
  ·intro k686 vals w687 h690 h691 hW689 hA688
   obtain rfl : k686 = 1 := Nat.le_antisymm h691 h690
   obtain ⟨he256, hS692⟩ := hW689
   have e693 : vals 13 = (if (decide ((zU n L (B.getD k default)) = 0)) = true then (.bool (decide (c9 < 0)) : Value) else undef) := hA688 13 (by decide)
   have e694 : vals 19 = (if ((decide ((zU n L (B.getD k default)) = 0)) = true) ∧ (decide (c9 < 0)) = false then (.pointer (some ⟨sb vl4, so vl4 + k * 10, none⟩) : Value) else undef) := hA688 19 (by decide)
   refine xD rfl rfl e693 (fun hb695 => ?_) (fun hb695 => fun vals' hv _ => ⟨trivial, hv.trans (if_neg hb695).symm⟩)
   have hl696 := hb695.1
   have hl696 := of_decide_eq_true hl696
   have hl697 := hb695.2
   have hl697 := of_decide_eq_false hl697
   have hi699 : k < B.length := (by first | omega | (simp only [lens]; omega))
   obtain ⟨hce698, hde698_0, hoke698⟩ := hl6.ev hi699
   rw [← zm default hi699] at hce698 hde698_0 hoke698
   have hsm700 : ((B.getD k default).deps).length * 8 ≤ 140737488355328 := hde698_0.small
   have hcw701 := hS692.cells hce698 (hl6.foot (ne_of_lt hi699))
   exact zr (k := 10) Try.isAgg36 Try.sizeOf36 rfl (show _ = (.pointer (some ⟨sb vl4, so vl4 + k * 10, none⟩) : Value) from (Eq.trans e694 (if_pos ⟨hb695.1, hb695.2⟩))) hcw701 (fun vals' hv _ => ⟨rfl, hv.trans (if_pos hb695).symm⟩)
  ·intro k702 vals w703 h706 h707 hW705 hA704
   have e708 : vals 13 = (if (decide ((zU n L (B.getD k default)) = 0)) = true then (.bool (decide (c9 < 0)) : Value) else undef) := hA704 13 (by decide)
   refine xD rfl rfl e708 (fun hb709 => ?_) (fun hb709 => fun vals' hv _ => ⟨trivial, hv.trans (if_neg hb709).symm⟩)
   have hl710 := hb709.1
   have hl710 := of_decide_eq_true hl710
   have hl711 := hb709.2
   have hl711 := of_decide_eq_false hl711
   exact zb (v := .pointer (some ⟨b, 0, none⟩)) rfl (fun vals' hv _ => ⟨rfl, hv.trans (if_pos hb709).symm⟩)
  ·intro k712 vals w713 h716 h717 hW715 hA714
   have e718 : vals 13 = (if (decide ((zU n L (B.getD k default)) = 0)) = true then (.bool (decide (c9 < 0)) : Value) else undef) := hA714 13 (by decide)
   have e719 : vals 21 = (if ((decide ((zU n L (B.getD k default)) = 0)) = true) ∧ (decide (c9 < 0)) = false then (.pointer (some ⟨b, 0, none⟩) : Value) else undef) := hA714 21 (by decide)
   refine xD rfl rfl e718 (fun hb720 => ?_) (fun hb720 => fun vals' hv _ => ⟨trivial, hv.trans (if_neg hb720).symm⟩)
   have hl721 := hb720.1
   have hl721 := of_decide_eq_true hl721
   have hl722 := hb720.2
   have hl722 := of_decide_eq_false hl722
   exact zn (b := b) (o := 0) (show _ = (.pointer (some ⟨b, 0, none⟩) : Value) from (Eq.trans e719 (if_pos ⟨hb720.1, hb720.2⟩))) (fun vals' hv _ => ⟨rfl, hv.trans (if_pos hb720).symm⟩)
  ·intro k723 vals w724 h727 h728 hW726 hA725
   have e729 : vals 13 = (if (decide ((zU n L (B.getD k default)) = 0)) = true then (.bool (decide (c9 < 0)) : Value) else undef) := hA725 13 (by decide)
   have e730 : vals 22 = (if ((decide ((zU n L (B.getD k default)) = 0)) = true) ∧ (decide (c9 < 0)) = false then (.pointer (some ⟨b, 0, none⟩) : Value) else undef) := hA725 22 (by decide)
   refine xD rfl rfl e729 (fun hb731 => ?_) (fun hb731 => fun vals' hv _ => ⟨trivial, hv.trans (if_neg hb731).symm⟩)
   have hl732 := hb731.1
   have hl732 := of_decide_eq_true hl732
   have hl733 := hb731.2
   have hl733 := of_decide_eq_false hl733
   exact yS (show _ = (.pointer (some ⟨b, 0, none⟩) : Value) from (Eq.trans e730 (if_pos ⟨hb731.1, hb731.2⟩))) (fun vals' hv _ => ⟨rfl, hv.trans (if_pos hb731).symm⟩)
  ·intro k734 vals w735 h738 h739 hW737 hA736
   obtain rfl : k734 = 1 := Nat.le_antisymm h739 h738
   obtain ⟨he256, hS740⟩ := hW737
   have e741 : vals 13 = (if (decide ((zU n L (B.getD k default)) = 0)) = true then (.bool (decide (c9 < 0)) : Value) else undef) := hA736 13 (by decide)
   have e742 : vals 23 = (if ((decide ((zU n L (B.getD k default)) = 0)) = true) ∧ (decide (c9 < 0)) = false then (.pointer (some ⟨b, 1, none⟩) : Value) else undef) := hA736 23 (by decide)
   refine xD rfl rfl e741 (fun hb743 => ?_) (fun hb743 => fun vals' hv _ => ⟨trivial, hv.trans (if_neg hb743).symm⟩)
   have hl744 := hb743.1
   have hl744 := of_decide_eq_true hl744
   have hl745 := hb743.2
   have hl745 := of_decide_eq_false hl745
   exact zg (v := vl4) Try.isAgg22 (show _ = (.pointer (some ⟨b, 1, none⟩) : Value) from (Eq.trans e742 (if_pos ⟨hb743.1, hb743.2⟩))) (zf (hS740.gblk hb5) rfl) (fun vals' hv _ => ⟨rfl, hv.trans (if_pos hb743).symm⟩)
  ·intro k746 vals w747 h750 h751 hW749 hA748
   have e752 : vals 13 = (if (decide ((zU n L (B.getD k default)) = 0)) = true then (.bool (decide (c9 < 0)) : Value) else undef) := hA748 13 (by decide)
   refine xD rfl rfl e752 (fun hb753 => ?_) (fun hb753 => fun vals' hv _ => ⟨trivial, hv.trans (if_neg hb753).symm⟩)
   have hl754 := hb753.1
   have hl754 := of_decide_eq_true hl754
   have hl755 := hb753.2
   have hl755 := of_decide_eq_false hl755
   exact zb (v := .int .i64 (c9)) rfl (fun vals' hv _ => ⟨rfl, hv.trans (if_pos hb753).symm⟩)
  ·intro k756 vals w757 h760 h761 hW759 hA758
   obtain rfl : k756 = 1 := Nat.le_antisymm h761 h760
   obtain ⟨he256, hS762⟩ := hW759
   have e763 : vals 13 = (if (decide ((zU n L (B.getD k default)) = 0)) = true then (.bool (decide (c9 < 0)) : Value) else undef) := hA758 13 (by decide)
   have e764 : vals 24 = (if ((decide ((zU n L (B.getD k default)) = 0)) = true) ∧ (decide (c9 < 0)) = false then (vl4 : Value) else undef) := hA758 24 (by decide)
   have e765 : vals 25 = (if ((decide ((zU n L (B.getD k default)) = 0)) = true) ∧ (decide (c9 < 0)) = false then (.int .i64 (c9) : Value) else undef) := hA758 25 (by decide)
   refine xD rfl rfl e763 (fun hb766 => ?_) (fun hb766 => fun vals' hv _ => ⟨trivial, hv.trans (if_neg hb766).symm⟩)
   have hl767 := hb766.1
   have hl767 := of_decide_eq_true hl767
   have hl768 := hb766.2
   have hl768 := of_decide_eq_false hl768
   have hi769 : c9.toNat < B.length := by omega
   exact yv (k := 10) (i := c9) Try.underlying22 Try.sizeOf36 (show _ = (vl4 : Value) from (Eq.trans e764 (if_pos ⟨hb766.1, hb766.2⟩))) hl6.sl (show _ = (.int .i64 (c9) : Value) from (Eq.trans e765 (if_pos ⟨hb766.1, hb766.2⟩))) ⟨by omega, by omega⟩ (fun vals' hv _ => ⟨rfl, hv.trans (if_pos hb766).symm⟩)
  ·intro k770 vals w771 h774 h775 hW773 hA772
   obtain rfl : k770 = 1 := Nat.le_antisymm h775 h774
   obtain ⟨he256, hS776⟩ := hW773
   have e777 : vals 13 = (if (decide ((zU n L (B.getD k default)) = 0)) = true then (.bool (decide (c9 < 0)) : Value) else undef) := hA772 13 (by decide)
   have e778 : vals 26 = (if ((decide ((zU n L (B.getD k default)) = 0)) = true) ∧ (decide (c9 < 0)) = false then (.pointer (some ⟨sb vl4, so vl4 + c9.toNat * 10, none⟩) : Value) else undef) := hA772 26 (by decide)
   refine xD rfl rfl e777 (fun hb779 => ?_) (fun hb779 => fun vals' hv _ => ⟨trivial, hv.trans (if_neg hb779).symm⟩)
   have hl780 := hb779.1
   have hl780 := of_decide_eq_true hl780
   have hl781 := hb779.2
   have hl781 := of_decide_eq_false hl781
   have hi783 : c9.toNat < B.length := (by first | omega | (simp only [lens]; omega))
   obtain ⟨hce782, hde782_0, hoke782⟩ := hl6.ev hi783
   rw [← zm default hi783] at hce782 hde782_0 hoke782
   have hsm784 : ((B.getD c9.toNat default).deps).length * 8 ≤ 140737488355328 := hde782_0.small
   have hcw785 := hS776.cells hce782 (hl6.foot (ne_of_lt hi783))
   exact zr (k := 10) Try.isAgg36 Try.sizeOf36 rfl (show _ = (.pointer (some ⟨sb vl4, so vl4 + c9.toNat * 10, none⟩) : Value) from (Eq.trans e778 (if_pos ⟨hb779.1, hb779.2⟩))) hcw785 (fun vals' hv _ => ⟨rfl, hv.trans (if_pos hb779).symm⟩)
  ·intro k469 vals w470 h473 h474 hW472 hA471
   obtain rfl : k469 = 1 := Nat.le_antisymm h474 h473
   obtain ⟨he256, hS475⟩ := hW472
   have e476 : vals 13 = (if (decide ((zU n L (B.getD k default)) = 0)) = true then (.bool (decide (c9 < 0)) : Value) else undef) := hA471 13 (by decide)
   have e477 : vals 20 = (if ((decide ((zU n L (B.getD k default)) = 0)) = true) ∧ (decide (c9 < 0)) = false then (.agg ((B.getD k default).cells (zT W (sb vl4) (so vl4 + k * 10 + 3))).toArray : Value) else undef) := hA471 20 (by decide)
   have e478 : vals 27 = (if ((decide ((zU n L (B.getD k default)) = 0)) = true) ∧ (decide (c9 < 0)) = false then (.agg ((B.getD c9.toNat default).cells (zT W (sb vl4) (so vl4 + c9.toNat * 10 + 3))).toArray : Value) else undef) := hA471 27 (by decide)
   refine xD rfl rfl e476 (fun hb479 => ?_) (fun hb479 vals' hv hv' => ?_)
   ·skip
    have hl480 := hb479.1
    have hl480 := of_decide_eq_true hl480
    have hl481 := hb479.2
    have hl481 := of_decide_eq_false hl481
    have hi483 : k < B.length := (by first | omega | (simp only [lens]; omega))
    obtain ⟨hce482, hde482_0, hoke482⟩ := hl6.ev hi483
    rw [← zm default hi483] at hce482 hde482_0 hoke482
    have hsm484 : ((B.getD k default).deps).length * 8 ≤ 140737488355328 := hde482_0.small
    have hcw485 := hS475.cells hce482 (hl6.foot (ne_of_lt hi483))
    have hi487 : c9.toNat < B.length := (by first | omega | (simp only [lens]; omega))
    obtain ⟨hce486, hde486_0, hoke486⟩ := hl6.ev hi487
    rw [← zm default hi487] at hce486 hde486_0 hoke486
    have hsm488 : ((B.getD c9.toNat default).deps).length * 8 ≤ 140737488355328 := hde486_0.small
    have hcw489 := hS475.cells hce486 (hl6.foot (ne_of_lt hi487))
    refine (zj (f := 56) (vals := [.agg ((B.getD k default).cells (zT W (sb vl4) (so vl4 + k * 10 + 3))).toArray, .agg ((B.getD c9.toNat default).cells (zT W (sb vl4) (so vl4 + c9.toNat * 10 + 3))).toArray]) (cap := []) rfl (xc ⟨(show _ = (.agg ((B.getD k default).cells (zT W (sb vl4) (so vl4 + k * 10 + 3))).toArray : Value) from (Eq.trans e477 (if_pos ⟨hb479.1, hb479.2⟩))), (show _ = (.agg ((B.getD c9.toNat default).cells (zT W (sb vl4) (so vl4 + c9.toNat * 10 + 3))).toArray : Value) from (Eq.trans e478 (if_pos ⟨hb479.1, hb479.2⟩))), trivial⟩) Try.call56 (XS (a := (B.getD k default)) (b := (B.getD c9.toNat default)) hde482_0 hoke482 hde486_0 hoke486 hS475) ?_)
    rintro _ w490 ⟨rfl, hS491⟩
    intro vals' hv hv'
    refine ⟨?_, trivial⟩
    show (vals' 8 = (.int .i64 ((zU n L (B.getD k default))) : Value)) ∧ (vals' 28 = (if ((decide ((zU n L (B.getD k default)) = 0)) = true) ∧ (decide (c9 < 0)) = false then (.bool ((ltE (B.getD k default) (B.getD c9.toNat default))) : Value) else undef)) ∧ Sep G W ((RowE (α := Ev) own 36 vl1 L) :: (Blk s #[.int .i64 ((n : Nat) : Int), vl1] 78) :: Rs) w490
    exact ⟨(by rw [hv' 8 (by decide)]; exact he256), (hv.trans (if_pos hb479).symm), hS491⟩
   ·skip
    refine ⟨?_, trivial⟩
    show (vals' 8 = (.int .i64 ((zU n L (B.getD k default))) : Value)) ∧ (vals' 28 = (if ((decide ((zU n L (B.getD k default)) = 0)) = true) ∧ (decide (c9 < 0)) = false then (.bool ((ltE (B.getD k default) (B.getD c9.toNat default))) : Value) else undef)) ∧ Sep G W ((RowE (α := Ev) own 36 vl1 L) :: (Blk s #[.int .i64 ((n : Nat) : Int), vl1] 78) :: Rs) w470
    exact ⟨(by rw [hv' 8 (by decide)]; exact he256), (hv.trans (if_neg hb479).symm), hS475⟩
  ·intro k786 vals w787 h790 h791 hW789 hA788
   obtain rfl : k786 = 2 := Nat.le_antisymm h791 h790
   obtain ⟨he256, he492, hS792⟩ := hW789
   have e793 := hA788 10 (by decide)
   have e794 : vals 13 = (if (decide ((zU n L (B.getD k default)) = 0)) = true then (.bool (decide (c9 < 0)) : Value) else undef) := hA788 13 (by decide)
   refine yT rfl rfl e793 (fun hb795 => ?_) (fun hb795 => fun vals' hv _ => ⟨trivial, hv.trans (if_neg hb795).symm⟩)
   have hl796 := hb795
   have hl796 := of_decide_eq_true hl796
   exact zX (b := decide (c9 < 0)) (b' := (ltE (B.getD k default) (B.getD c9.toNat default))) (show _ = (.bool (decide (c9 < 0)) : Value) from (Eq.trans e794 (if_pos hb795))) (fun hbp => (show _ = (.bool ((ltE (B.getD k default) (B.getD c9.toNat default))) : Value) from (Eq.trans he492 (if_pos ⟨hb795, hbp⟩)))) (fun vals' hv _ => ⟨rfl, hv.trans (if_pos hb795).symm⟩)
  ·intro k797 vals w798 h801 h802 hW800 hA799
   have e803 := hA799 10 (by decide)
   have e804 : vals 29 = (if (decide ((zU n L (B.getD k default)) = 0)) = true then (.bool ((decide (c9 < 0)) || (ltE (B.getD k default) (B.getD c9.toNat default))) : Value) else undef) := hA799 29 (by decide)
   refine obl rfl ?_
   exact yp (b := decide ((zU n L (B.getD k default)) = 0)) (b' := (decide (c9 < 0)) || (ltE (B.getD k default) (B.getD c9.toNat default))) e803 (fun hbp => (show _ = (.bool ((decide (c9 < 0)) || (ltE (B.getD k default) (B.getD c9.toNat default))) : Value) from (Eq.trans e804 (if_pos hbp)))) (fun vals' hv _ => ⟨rfl, hv⟩)
  intro vals w805 hW806 hA807
  obtain ⟨he256, he492, hS808⟩ := hW806
  have e809 := hA807 30 (by decide)
  refine yb (kv := [(0, .pointer (some ⟨b, 0, none⟩)), (1, .pointer (some ⟨s, 0, none⟩)), (5, .int .i64 (c9)), (6, .int .i64 ((k : Nat) : Int)), (8, .int .i64 ((k : Nat) : Int)), (9, .pointer (some ⟨b, 0, none⟩)), (10, .pointer (some ⟨b, 0, none⟩)), (11, .pointer (some ⟨b, 1, none⟩)), (12, vl4), (13, .int .i64 ((B.length : Nat) : Int)), (14, .bool true), (7, .pointer (some ⟨b88, 0, none⟩)), (57, .bool ((decide ((zU n L (B.getD k default)) = 0)) && ((decide (c9 < 0)) || (ltE (B.getD k default) (B.getD c9.toNat default)))))]) ⟨rfl, rfl, rfl, rfl, rfl, rfl, rfl, rfl, rfl, rfl, rfl, rfl, (by exact e809), trivial⟩ (fun ρw805 => ?_)
  refine ze ?_
  cases hc810 : (decide ((zU n L (B.getD k default)) = 0)) && ((decide (c9 < 0)) || (ltE (B.getD k default) (B.getD c9.toNat default)))
  ·skip
   have hc810r := hc810
   try simp only [zx] at hc810
   refine zi rfl ?_
   refine zo ?_
   refine za (by kernel_rfl) (fun _ => ?_)
   refine st (zb (v := .int .i64 ((k : Nat) : Int)) rfl ?_)
   have hr811 : InR ((k + 1 : Nat) : Int) := by first | omega | (simp only [lens]; omega)
   refine st (zB (r := ((k + 1 : Nat) : Int)) (k := .i64) (a := ((k : Nat) : Int)) (b := 1) rfl rfl (by rw [show (((k : Nat) : Int) + 1 : Int) = ((k + 1 : Nat) : Int) by first | omega | (simp only [lens]; omega)]; exact zy hr811) ?_)
   refine st (zd (v := .int .i64 ((k + 1 : Nat) : Int)) rfl ?_)
   refine ze ?_
   have hS812 := hS808.mv1
   exact ⟨_, by omega, k + 1, c9, _, rfl, zh ⟨rfl, rfl, rfl, rfl, trivial⟩, by omega, hcI9, (hF9.skip hc810r), hS812⟩
  ·skip
   have hc810r := hc810
   try simp only [zx] at hc810
   refine zk rfl ?_
   refine za (by kernel_rfl) (fun _ => ?_)
   refine st (zb (v := .int .i64 ((k : Nat) : Int)) rfl ?_)
   refine st (zd (v := .int .i64 ((k : Nat) : Int)) rfl ?_)
   refine ze ?_
   refine za (by kernel_rfl) (fun _ => ?_)
   refine st (zb (v := .int .i64 ((k : Nat) : Int)) rfl ?_)
   have hr813 : InR ((k + 1 : Nat) : Int) := by first | omega | (simp only [lens]; omega)
   refine st (zB (r := ((k + 1 : Nat) : Int)) (k := .i64) (a := ((k : Nat) : Int)) (b := 1) rfl rfl (by rw [show (((k : Nat) : Int) + 1 : Int) = ((k + 1 : Nat) : Int) by first | omega | (simp only [lens]; omega)]; exact zy hr813) ?_)
   refine st (zd (v := .int .i64 ((k + 1 : Nat) : Int)) rfl ?_)
   refine ze ?_
   have hS814 := hS808.mv1
   exact ⟨_, by omega, k + 1, ((k : Nat) : Int), _, rfl, zh ⟨rfl, rfl, rfl, rfl, trivial⟩, by omega, (by show InR ((k : Nat) : Int); omega), (hF9.take hc810r), hS814⟩

end Go.Proofs.Ytmiihhbeclhaoaa
end

section
/- Plain laws of chapter 25: events that wait, in order. -/
namespace Go.Proofs.Ytmiihhbeclhaoaa
open Go.Proofs Go.RowKit

def zu (l : List Ev) : List Ev := l.foldl (fun S e => yj e S) []
section
variable {l A B L T : List Ev} {e : Ev} {n : Nat}
theorem sortE_snoc : zu (l ++ [e]) = yj e (zu l) := by unfold zu; rw [List.foldl_append]; rfl
theorem YP : ∀ {l A : List Ev}, (l.foldl (fun S e => yj e S) A).Perm (A ++ l)
  | [], A => by rw [List.append_nil]; exact List.Perm.refl _
  | e :: l, A => by
    refine (YP (l := l) (A := yj e A)).trans ?_
    refine (insE_perm.append_right l).trans ?_
    exact List.perm_middle.symm
theorem sortE_perm : (zu l).Perm l := by
  have := YP (l := l) (A := [])
  rwa [List.nil_append] at this
theorem Xy : ∀ {l A : List Ev}, Srt A → ((A ++ l).map idE).Nodup → Srt (l.foldl (fun S e => yj e S) A)
  | [], A, h, _ => h
  | e :: l, A, h, hn => by
    have h1 : ((e :: A ++ l).map idE).Nodup := ((List.perm_middle (l₁ := A) (a := e) (l₂ := l)).map idE).nodup_iff.1 hn
    refine Xy (l := l) (YW h (fun hm => ?_)) ?_
    · rw [List.cons_append, List.map_cons, List.nodup_cons] at h1
      exact h1.1 (by rw [List.map_append]; exact List.mem_append_left _ hm)
    · exact (((insE_perm (e := e) (L := A)).append_right l).map idE).nodup_iff.2 h1
theorem yG (h : (l.map idE).Nodup) : Srt (zu l) := Xy (A := []) List.Pairwise.nil (by rwa [List.nil_append])
theorem ZH : ∀ {A B : List Ev}, Srt A → Srt B → A.Perm B → A = B
  | [], B, _, _, h => h.nil_eq
  | a :: A, [], _, _, h => by simpa using h.length_eq
  | a :: A, b :: B, hA, hB, h => by
    have hA' := List.pairwise_cons.1 hA
    have hB' := List.pairwise_cons.1 hB
    have hab : a = b := by
      rcases List.mem_cons.1 (h.mem_iff.1 (List.mem_cons_self ..)) with h1 | h1
      · exact h1
      · rcases List.mem_cons.1 (h.mem_iff.2 (List.mem_cons_self ..)) with h2 | h2
        · exact h2.symm
        · exact absurd (hA'.1 b h2) (xO (hB'.1 a h1))
    subst hab
    rw [ZH hA'.2 hB'.2 (List.perm_cons a |>.1 h)]
theorem Kh {p : Ev → Bool} (h : (l.map idE).Nodup) : zu (l.filter p) = (zu l).filter p :=
  ZH (yG (List.Nodup.sublist (List.filter_sublist.map idE) h)) ((yG h).sublist List.filter_sublist) (sortE_perm.trans (sortE_perm.symm.filter p))
theorem Vx {q p : Nat} (h : (l.map idE).Nodup) (hq : q < l.length) (hp : p < (zu l).length) (he : (zu l).getD p default = l.getD q default) : zu (l.eraseIdx q) = (zu l).eraseIdx p := by
  have pe : ∀ {l : List Ev} {q : Nat}, q < l.length → l.Perm (l.getD q default :: l.eraseIdx q) := fun {l q} hq => by
    rw [zm _ hq, List.eraseIdx_eq_take_drop_succ]
    conv => lhs; rw [← List.take_append_drop q l, List.drop_eq_getElem_cons hq]
    exact List.perm_middle
  refine ZH (yG (List.Nodup.sublist ((List.eraseIdx_sublist ..).map idE) h)) ((yG h).sublist (List.eraseIdx_sublist ..)) (sortE_perm.trans ?_)
  have h1 := pe hq
  have h2 := pe hp
  rw [he] at h2
  exact (List.perm_cons _).1 (h1.symm.trans (sortE_perm.symm.trans h2))
structure RrI (n : Nat) (L S0 O T B : List Ev) : Prop where
  ids : (B.map idE).Nodup
  r : RdI n L S0 O T (zu B)
theorem RrI.start {p : Ev → Bool} (hG : Good n L) (hi : (B.map idE).Nodup) (hl : L.length + B.length ≤ 1000000) : RrI n L ((zu B).filter p) [] L (B.filter p) := by
  refine ⟨List.Nodup.sublist (List.filter_sublist.map idE) hi, ?_⟩
  rw [Kh hi]
  refine RdI.start hG ?_
  have h1 := List.length_filter_le p (zu B)
  have h2 := (sortE_perm (l := B)).length_eq
  omega
theorem RrI.bd {S0 O : List Ev} (h : RrI n L S0 O T B) : T.length + B.length ≤ 1000000 ∧ O.length + B.length ≤ S0.length := by
  have h1 := h.r.len
  have h2 := h.r.ol
  have h3 := (sortE_perm (l := B)).length_eq
  omega
theorem RrI.step {S0 O : List Ev} {q : Nat} (h : RrI n L S0 O T B) (hf : FirstL n T B B.length (q : Int)) : q < B.length ∧ xj n T (B.getD q default) = true ∧ RrI n L S0 (O ++ [B.getD q default]) (addL n T (B.getD q default)) (B.eraseIdx q) := by
  rcases hf with ⟨h1, _⟩ | ⟨q', h1, hq, hc, hm⟩
  · omega
  obtain rfl : q = q' := by omega
  refine ⟨hq, hc, List.Nodup.sublist ((List.eraseIdx_sublist ..).map idE) h.ids, ?_⟩
  have he : B.getD q default ∈ zu B := sortE_perm.mem_iff.2 (xb hq)
  obtain ⟨p, hp, hpe⟩ := List.getElem_of_mem he
  have hpe' : (zu B).getD p default = B.getD q default := by rw [zm _ hp]; exact hpe
  have h2 := RdI.step (q := p) h.r hp (by rw [hpe']; exact hc) (fun i hi => ?_)
  · rw [hpe'] at h2
    rw [Vx h.ids hq hp hpe']; exact h2
  · cases hb : xj n T ((zu B).getD i default) with
    | false => rfl
    | true =>
      have hm1 : (zu B).getD i default ∈ B := sortE_perm.mem_iff.1 (xb (by omega))
      obtain ⟨i', hi', hie⟩ := List.getElem_of_mem hm1
      have hie' : B.getD i' default = (zu B).getD i default := by rw [zm _ hi']; exact hie
      have h3 := hm i' hi' (by rw [hie']; exact hb)
      rw [hie', ← hpe'] at h3
      have h4 : yt ((zu B).getD i default) ((zu B).getD p default) < 0 := by
        rw [zm _ (by omega), zm _ hp]
        exact List.pairwise_iff_getElem.1 (yG h.ids) i p (by omega) hp hi
      rw [xf.2 h4] at h3; cases h3
theorem RrI.fin {S0 O : List Ev} {c : Int} (h : RrI n L S0 O T B) (hf : FirstL n T B B.length c) (hc : c < 0) : O = yn n L S0 ∧ (B.map idE).Nodup ∧ zu B = yy n L S0 := by
  rcases hf with ⟨_, h1⟩ | ⟨q, h1, _⟩
  · have h2 := RdI.fin h.r (fun i hi => ?_)
    · exact ⟨h2.1, h.ids, h2.2⟩
    · have hm1 : (zu B).getD i default ∈ B := sortE_perm.mem_iff.1 (xb hi)
      obtain ⟨i', hi', hie⟩ := List.getElem_of_mem hm1
      have := h1 i' hi'
      rw [zm _ hi', hie] at this; exact this
  · omega
def yi (p : Ev → Bool) (B : List Ev) (k : Nat) : List Ev := B.take k ++ (B.drop k).filter fun x => !p x
variable {p : Ev → Bool} {j : Nat}
theorem KB : yi p B B.length = B := by unfold yi; rw [List.take_length, List.drop_length, List.filter_nil, List.append_nil]
theorem Ke : yi p B 0 = B.filter fun x => !p x := by unfold yi; rw [List.take_zero, List.drop_zero, List.nil_append]
theorem Jj (hj : j < B.length) : j < (yi p B (j + 1)).length ∧ (yi p B (j + 1)).getD j default = B.getD j default := by
  have h1 : j < (yi p B (j + 1)).length := by unfold yi; rw [List.length_append, List.length_take]; omega
  refine ⟨h1, ?_⟩
  have h2 : (yi p B (j + 1))[j]? = some B[j] := by
    unfold yi
    rw [List.getElem?_append_left (by rw [List.length_take]; omega), List.getElem?_take, if_pos (Nat.lt_succ_self j), List.getElem?_eq_getElem hj]
  rw [zm _ h1, zm _ hj]
  exact (List.getElem?_eq_some_iff.1 h2).2
theorem QN (hj : j < B.length) (h : p (B.getD j default) = false) : yi p B (j + 1) = yi p B j := by
  rw [zm _ hj] at h
  unfold yi
  rw [List.drop_eq_getElem_cons hj, List.filter_cons, if_pos (by rw [h]; rfl), List.take_succ_eq_append_getElem hj, List.append_assoc]; rfl
theorem QV (hj : j < B.length) (h : p (B.getD j default) = true) : (yi p B (j + 1)).eraseIdx j = yi p B j := by
  rw [zm _ hj] at h
  unfold yi
  rw [List.drop_eq_getElem_cons hj, List.filter_cons, if_neg (by rw [h]; decide), List.eraseIdx_append_of_lt_length (by rw [List.length_take]; omega), List.take_succ_eq_append_getElem hj, List.eraseIdx_append_of_length_le (by rw [List.length_take]; omega)]
  rw [List.length_take, Nat.min_eq_left (by omega), Nat.sub_self]
  simp
theorem Kz : (yi p B j).length ≤ B.length := by
  have h1 := List.length_filter_le (fun x => !p x) (B.drop j)
  unfold yi
  rw [List.length_append, List.length_take]
  rw [List.length_drop] at h1
  omega
end
end Go.Proofs.Ytmiihhbeclhaoaa
end
