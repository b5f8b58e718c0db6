/- Texts of this claim, part 6. -/
import Derived.Test.YtmiihhbeclhaoaaY5
import Derived.Test.YtmiihhbeclhaoaaProg
set_option linter.unusedSimpArgs false
set_option linter.unusedVariables false
set_option linter.unusedSectionVars false
section
/- Steps of the proofs of this seat: part A1. -/
set_option maxRecDepth 8000
set_option maxHeartbeats 4000000
namespace Go.Proofs.Ytmiihhbeclhaoaa
open Go.Proofs Go.RowKit

theorem QG {G : Nat → Prop} {W w : World} {Rs : List HP} {x : Int} (hS0 : Sep G W Rs w) : Ret Try.prog 74 [.int .i64 (x)] w (fun r w' => r = (.bool false : Value) ∧ Sep G W Rs w') := by
 refine zp (args := [.int .i64 (x)]) Try.func74 rfl rfl ?_
 refine zc ?_
 refine za (by kernel_rfl) (fun _ => ?_)
 refine st (zd (v := .bool false) rfl ?_)
 refine ze ?_
 refine zc ?_
 refine za (by kernel_rfl) (fun _ => ?_)
 refine st (zb (v := .int .i64 (x)) rfl ?_)
 refine st (zb (v := .int .i64 (x)) rfl ?_)
 refine st (yH (k := .i64) (a := x) (b := x) rfl rfl ?_)
 refine st (zd (v := .bool (!decide (x = x))) rfl ?_)
 refine ze ?_
 refine zw ?_
 refine zL Try.results74 (show _ = (.bool (!decide (x = x)) : Value) from rfl) ?_
 refine ⟨?_, hS0⟩
 simp

theorem XC {G : Nat → Prop} {W w : World} {Rs : List HP} {x : Int} {y : Int} (hS0 : Sep G W Rs w) : Ret Try.prog 66 [.int .i64 (x), .int .i64 (y)] w (fun r w' => r = (.int .i64 ((zC x y)) : Value) ∧ Sep G W Rs w') := by
 refine zp (args := [.int .i64 (x), .int .i64 (y)]) Try.func66 rfl rfl ?_
 refine zc ?_
 refine za (by kernel_rfl) (fun _ => ?_)
 refine st (zd (v := .int .i64 (0)) rfl ?_)
 refine ze ?_
 refine zc ?_
 refine za (by kernel_rfl) (fun _ => ?_)
 refine st (zb (v := .int .i64 (x)) rfl ?_)
 refine st (zj (f := 74) (vals := [.int .i64 (x)]) (cap := []) rfl rfl Try.call74 (QG  hS0) ?_)
 rintro _ w1 ⟨rfl, hS2⟩
 refine st (zd (v := .bool false) rfl ?_)
 refine ze ?_
 refine zc ?_
 refine za (by kernel_rfl) (fun _ => ?_)
 refine st (zb (v := .int .i64 (y)) rfl ?_)
 refine st (zj (f := 74) (vals := [.int .i64 (y)]) (cap := []) rfl rfl Try.call74 (QG  hS2) ?_)
 rintro _ w3 ⟨rfl, hS4⟩
 refine st (zd (v := .bool false) rfl ?_)
 refine ze ?_
 refine zc ?_
 refine zc ?_
 refine za (by kernel_rfl) (fun _ => ?_)
 refine st (zb (v := .bool false) rfl ?_)
 refine ze ?_
 refine zi rfl ?_
 refine zo ?_
 refine zc ?_
 refine zc ?_
 refine za (by kernel_rfl) (fun _ => ?_)
 refine st (zb (v := .bool false) rfl ?_)
 refine ze ?_
 refine zi rfl ?_
 refine zo ?_
 refine zc ?_
 refine zc ?_
 refine za (by kernel_rfl) (fun _ => ?_)
 refine st (zb (v := .int .i64 (x)) rfl ?_)
 refine st (zb (v := .int .i64 (y)) rfl ?_)
 refine st (zH (k := .i64) (a := x) (b := y) rfl rfl ?_)
 refine ze ?_
 cases hc5 : decide (x < y)
 ·skip
  have hc5 := of_decide_eq_false hc5
  refine zi rfl ?_
  refine zo ?_
  refine zc ?_
  refine zc ?_
  refine za (by kernel_rfl) (fun _ => ?_)
  refine st (zb (v := .int .i64 (x)) rfl ?_)
  refine st (zb (v := .int .i64 (y)) rfl ?_)
  refine st (xC (k := .i64) (a := x) (b := y) rfl rfl ?_)
  refine ze ?_
  cases hc6 : decide (y < x)
  ·skip
   have hc6 := of_decide_eq_false hc6
   refine zi rfl ?_
   refine zo ?_
   refine zc ?_
   refine za (by kernel_rfl) (fun _ => ?_)
   refine st (zd (v := .int .i64 (0)) rfl ?_)
   refine ze ?_
   refine zw ?_
   refine zL Try.results66 (show _ = (.int .i64 (0) : Value) from rfl) ?_
   refine ⟨?_, hS4⟩
   unfold zC
   (repeat (first | rw [if_pos (by omega)] | rw [if_neg (by omega)]))
  ·skip
   have hc6 := of_decide_eq_true hc6
   refine zk rfl ?_
   refine zc ?_
   refine za (by kernel_rfl) (fun _ => ?_)
   refine st (zd (v := .int .i64 (1)) rfl ?_)
   refine ze ?_
   refine zw ?_
   refine zL Try.results66 (show _ = (.int .i64 (1) : Value) from rfl) ?_
   refine ⟨?_, hS4⟩
   unfold zC
   (repeat (first | rw [if_pos (by omega)] | rw [if_neg (by omega)]))
 ·skip
  have hc5 := of_decide_eq_true hc5
  refine zk rfl ?_
  refine zc ?_
  refine za (by kernel_rfl) (fun _ => ?_)
  refine st (zd (v := .int .i64 (-1)) rfl ?_)
  refine ze ?_
  refine zw ?_
  refine zL Try.results66 (show _ = (.int .i64 (-1) : Value) from rfl) ?_
  refine ⟨?_, hS4⟩
  unfold zC
  (repeat (first | rw [if_pos (by omega)] | rw [if_neg (by omega)]))

theorem D_or {G : Nat → Prop} {W w : World} {Rs : List HP} {vl : Value} {l : List Int} (hl : RdS W G vl l) (hS0 : Sep G W Rs w) : Ret Try.prog 65 [vl] w (fun r w' => r = (.int .i64 ((orL l)) : Value) ∧ Sep G W Rs w') := by
 have hls : _ * 8 ≤ _ := hl.small
 refine zp (args := [vl]) Try.func65 rfl rfl ?_
 refine zc ?_
 refine za (by kernel_rfl) (fun _ => ?_)
 refine st (zd (v := .int .i64 (0)) rfl ?_)
 refine ze ?_
 refine zc ?_
 refine za (by kernel_rfl) (fun _ => ?_)
 refine st (zd (v := .int .i64 (0)) rfl ?_)
 refine ze ?_
 refine zc ?_
 refine zc ?_
 refine za (by kernel_rfl) (fun _ => ?_)
 refine st (zb (v := vl) rfl ?_)
 refine st (zJ (n := l.length) Try.underlying34 rfl hl.sl ?_)
 refine st (zb (v := .int .i64 (0)) rfl ?_)
 refine ze ?_
 refine zt ?_
 refine zP (fun mq σ wq => ∃ (k : Nat) (ρ : Env), mq = l.length - k ∧ σ = zQ ρ [(0, vl), (3, .int .i64 (0)), (6, vl), (7, .int .i64 ((l.length : Nat) : Int)), (8, .int .i64 ((k : Nat) : Int))] ∧ (k ≤ l.length) ∧ (orL l = orL (l.drop k)) ∧ Sep G W Rs wq) ⟨0, _, rfl, zh ⟨rfl, rfl, rfl, rfl, rfl, trivial⟩, Nat.zero_le _, rfl, hS0⟩ ?_
 rintro m2 σ3 w1 ⟨k, ρl1, rfl, rfl, hkk, hv, hS4⟩
 refine zc ?_
 refine za (by kernel_rfl) (fun _ => ?_)
 refine st (zH (k := .i64) (a := ((k : Nat) : Int)) (b := ((l.length : Nat) : Int)) rfl rfl ?_)
 refine ze ?_
 refine zc ?_
 cases hc5 : decide (((k : Nat) : Int) < ((l.length : Nat) : Int))
 ·skip
  have hc5 := of_decide_eq_false hc5
  refine zi rfl ?_
  refine zO ?_
  refine zF ?_
  refine zc ?_
  refine za (by kernel_rfl) (fun _ => ?_)
  refine st (zb (v := .int .i64 (0)) rfl ?_)
  refine st (zd (v := .int .i64 (0)) rfl ?_)
  refine ze ?_
  refine zw ?_
  refine zL Try.results65 (show _ = (.int .i64 (0) : Value) from rfl) ?_
  refine ⟨?_, hS4⟩
  rw [hv, List.drop_of_length_le (by omega)]; rfl
 ·skip
  have hc5 := of_decide_eq_true hc5
  refine zk rfl ?_
  refine zo ?_
  refine zc ?_
  refine zt ?_
  refine zc ?_
  refine za (by kernel_rfl) (fun _ => ?_)
  have hi6 : k < l.length := (by first | omega | (simp only [lens]; omega))
  refine st (zl (k := 1) (i := k) Try.underlying34 Try.sizeOf3 rfl hl.sl rfl hi6 ?_)
  have hi8 : k < l.length := (by first | omega | (simp only [lens]; omega))
  obtain ⟨hce7, hxe7⟩ := hl.int hi8
  rw [← zm 0 hi8] at hce7 hxe7
  have hcw9 := hS4.cells hce7 (hl.foot (ne_of_lt hi8))
  refine st (zg (v := .int .i64 ((l.getD k 0))) Try.isAgg3 rfl (hcw9.get (j := 0) rfl) ?_)
  refine st (zd (v := .int .i64 ((l.getD k 0))) rfl ?_)
  refine ze ?_
  refine zc ?_
  refine za (by kernel_rfl) (fun _ => ?_)
  refine st (zb (v := .int .i64 ((l.getD k 0))) rfl ?_)
  refine st (zb (v := .int .i64 (0)) rfl ?_)
  refine st (yH (k := .i64) (a := (l.getD k 0)) (b := 0) rfl rfl ?_)
  refine ze ?_
  cases hc10 : !decide ((l.getD k 0) = 0)
  ·skip
   have hc10 := yh hc10
   refine zi rfl ?_
   refine zo ?_
   refine za (by kernel_rfl) (fun _ => ?_)
   have hr11 : InR ((k + 1 : Nat) : Int) := by first | omega | (simp only [lens]; omega)
   refine st (zB (r := ((k + 1 : Nat) : Int)) (k := .i64) (a := ((k : Nat) : Int)) (b := 1) rfl rfl (by rw [show (((k : Nat) : Int) + 1 : Int) = ((k + 1 : Nat) : Int) by first | omega | (simp only [lens]; omega)]; exact zy hr11) ?_)
   refine st (zb (v := .int .i64 ((k + 1 : Nat) : Int)) rfl ?_)
   refine ze ?_
   exact ⟨_, by omega, k + 1, _, rfl, zh ⟨rfl, rfl, rfl, rfl, rfl, trivial⟩, by omega, (by rw [hv, List.drop_eq_getElem_cons (by omega)]; simp only [orL]; rw [if_neg (by rw [← zm 0 (by omega)]; simpa using hc10)]), hS4⟩
  ·skip
   have hc10 := yx hc10
   refine zk rfl ?_
   refine zc ?_
   refine za (by kernel_rfl) (fun _ => ?_)
   refine st (zb (v := .int .i64 ((l.getD k 0))) rfl ?_)
   refine st (zd (v := .int .i64 ((l.getD k 0))) rfl ?_)
   refine ze ?_
   refine zw ?_
   refine zL Try.results65 (show _ = (.int .i64 ((l.getD k 0)) : Value) from rfl) ?_
   refine ⟨?_, hS4⟩
   rw [hv, List.drop_eq_getElem_cons (by omega)]; simp only [orL]; rw [if_pos (by rw [← zm 0 (by omega)]; simpa using hc10), ← zm 0 (by omega)]

theorem KN {G : Nat → Prop} {W w : World} {Rs : List HP} {x : Int} (hx : InR x) (hS0 : Sep G W Rs w) : Ret Try.prog 63 [.int .i64 (x)] w (fun r w' => r = (.bool (decide (x < 0)) : Value) ∧ Sep G W Rs w') := by
 refine zp (args := [.int .i64 (x)]) Try.func63 rfl rfl ?_
 refine zc ?_
 refine za (by kernel_rfl) (fun _ => ?_)
 refine st (zd (v := .bool false) rfl ?_)
 refine ze ?_
 refine zc ?_
 refine za (by kernel_rfl) (fun _ => ?_)
 refine st (zb (v := .int .i64 (x)) rfl ?_)
 refine st (zH (k := .i64) (a := x) (b := 0) rfl rfl ?_)
 refine st (zd (v := .bool (decide (x < 0))) rfl ?_)
 refine ze ?_
 refine zw ?_
 refine zL Try.results63 (show _ = (.bool (decide (x < 0)) : Value) from rfl) ?_
 refine ⟨rfl, hS0⟩

end Go.Proofs.Ytmiihhbeclhaoaa
end

section
/- Steps of the proofs of this seat: part A2. -/
set_option maxRecDepth 8000
set_option maxHeartbeats 4000000
namespace Go.Proofs.Ytmiihhbeclhaoaa
open Go.Proofs Go.RowKit

theorem el34 : Elem Try.prog 34 3 1 8 := ⟨Try.underlying34, _, _, rfl, rfl, rfl, rfl, rfl⟩
theorem Zy {G : Nat → Prop} {W w : World} {Rs : List HP} {vl : Value} {l : List Int} (hl : RdS W G vl l) (hS0 : Sep G W Rs w) : Ret Try.prog 41 [vl] w (fun r w' => ∃ (v : Value), r = (v : Value) ∧ Sep G W ((RowE (α := Int) own 3 v l) :: Rs) w') := by
 have hls : _ * 8 ≤ _ := hl.small
 refine zp (args := [vl]) Try.func41 rfl rfl ?_
 refine zc ?_
 refine za (by kernel_rfl) (fun _ => ?_)
 refine st (zd (v := (.slice none 0 0)) rfl ?_)
 refine ze ?_
 refine zc ?_
 refine zc ?_
 refine za (by kernel_rfl) (fun _ => ?_)
 refine st (zb (v := vl) rfl ?_)
 refine st (UL (v := vl) Try.underlying34 rfl hl.sl ?_)
 refine ze ?_
 cases hc1 : Yx vl
 ·skip
  refine zi rfl ?_
  refine zo ?_
  refine zc ?_
  refine za (by kernel_rfl) (fun _ => ?_)
  refine st (zD (k := 1) (parts' := []) (c := #[]) Try.underlying34 Try.sizeOf3 Try.zeroValue3 (by decide) rfl (by kernel_rfl) ?_)
  intro w4 b3 hn2
  have hS5 := hS0.new hn2
  refine st (zb (v := vl) rfl ?_)
  have hS9 : Sep G W ((RowE (α := Int) own 3 (.slice (some ⟨b3, 0, none⟩) 0 0) ([] : List Int)) :: Rs) w4 := Sep.blkRow (src := own) (l := ([] : List Int)) (css := []) hS5 rfl trivial (by first | decide | (simp only [List.length_cons, List.length_nil]; decide))
  have hr10 := hS9.row (i := 0) rfl
  have hr10s : _ * 8 ≤ _ := hr10.2
  refine st (VL (src := own) (bytes := 8) hS9 el34 rfl rfl hl (by first | omega | (simp only [List.length_append, List.length_cons, List.length_nil, List.length_take, List.length_drop]; omega)) rfl (hq' := fun _ _ h _ _ => QR h) ?_)
  intro v7 w6 hS8
  have hS8 : Sep G W ((RowE (α := Int) own 3 v7 l) :: Rs) w6 := hS8
  have hr11 := hS8.row (i := 0) rfl
  have hr11s : _ * 8 ≤ _ := hr11.2
  refine st (zd (v := v7) rfl ?_)
  refine ze ?_
  refine zw ?_
  refine zL Try.results41 (show _ = (v7 : Value) from rfl) ?_
  refine ⟨v7, rfl, hS8⟩
 ·skip
  have hl0 := KS hl.sl hc1
  refine zk rfl ?_
  refine zc ?_
  refine za (by kernel_rfl) (fun _ => ?_)
  refine st (zd (v := (.slice none 0 0)) rfl ?_)
  refine ze ?_
  refine zw ?_
  refine zL Try.results41 (show _ = ((.slice none 0 0) : Value) from rfl) ?_
  have hS12 : Sep G W ((RowE (α := Int) own 3 (.slice none 0 0) ([] : List Int)) :: Rs) w := hS0.rowNil own 3
  have hl1 : l = [] := List.length_eq_zero_iff.1 hl0
  subst hl1
  refine ⟨(.slice none 0 0), rfl, hS12⟩

theorem yB {d : Option Tmp} {ty : TypeId} {pos : String} {af : Array Edge} {g : Option (Nat × Bool)} {σ : Env} {w : World} {K : Value → World → Prop} {x : Operand} {b o : Nat} (hx : ev σ x = .pointer (some ⟨b, o, none⟩)) (h : K (.pointer (some ⟨b, o + 3, none⟩)) w) : opV Try.prog ⟨d, .fieldAddr 36 x 2, ty, pos, af, g⟩ σ w K := zR Try.underlying36 rfl rfl (fun w => ⟨0, Try.sizeOf34 w⟩) hx h
theorem YQ {G : Nat → Prop} {W w : World} {Rs : List HP} {e : Ev} {de0 : Value} (hde0 : RdS W G de0 e.deps) (oe : e.Ok) (hS0 : Sep G W Rs w) : Ret Try.prog 38 [.agg (e.cells de0).toArray] w (fun r w' => ∃ (v : Value), r = (.agg (e.cells v).toArray : Value) ∧ Sep G W ((RowE (α := Int) own 3 v e.deps) :: Rs) w') := by
 have hde0s : _ * 8 ≤ _ := hde0.small
 refine zp (args := [.agg (e.cells de0).toArray]) Try.func38 rfl rfl ?_
 refine zc ?_
 refine za (by kernel_rfl) (fun _ => ?_)
 refine st (yg (v := .agg (e.cells de0).toArray) rfl ?_)
 intro w3 b2 hn1
 have hS4 := hS0.new hn1
 refine st (ye Try.zeroValue36 ?_)
 intro w7 b6 hn5
 have hS8 := hS4.new hn5
 refine ze ?_
 refine zc ?_
 refine za (by kernel_rfl) (fun _ => ?_)
 refine st (yB rfl ?_)
 refine st (zg (v := de0) Try.isAgg34 rfl (zf (hS8.blk (i := 1) rfl) rfl) ?_)
 refine st (zj (f := 41) (vals := [de0]) (cap := []) rfl rfl Try.call41 (Zy (l := e.deps) (vl := de0) hde0 hS8) ?_)
 rintro v9 w10 ⟨_, rfl, hS11⟩
 have hr12 := hS11.row (i := 0) rfl
 have hr12s : _ * 8 ≤ _ := hr12.2
 refine st (yB rfl ?_)
 refine stn (yd (v := v9) (c := [.int .i64 (e.origin), .int .i64 (e.seq), .int .i64 (e.lam), de0, .int .i64 (e.typ), .int .i64 (e.agg), .int .i64 (e.field), .int .i64 (e.op), .int .i64 (e.arg), .int .i64 (e.key)]) (c' := [.int .i64 (e.origin), .int .i64 (e.seq), .int .i64 (e.lam), v9, .int .i64 (e.typ), .int .i64 (e.agg), .int .i64 (e.field), .int .i64 (e.op), .int .i64 (e.arg), .int .i64 (e.key)]) Try.sizeOf34 rfl rfl (hS11.blk (i := 2) rfl) hr12.1.one rfl rfl ?_)
 intro w13 hp14
 have ok15 : Ev.Ok e := ⟨(show InR (e.origin) from oe.origin), (show InR (e.seq) from oe.seq), (show InR (e.lam) from oe.lam), (show InR (e.typ) from oe.typ), (show InR (e.agg) from oe.agg), (show InR (e.field) from oe.field), (show InR (e.op) from oe.op), (show InR (e.arg) from oe.arg), (show InR (e.key) from oe.key)⟩
 have hS16 := hS11.pt2 hp14
 refine ze ?_
 refine zc ?_
 refine za (by kernel_rfl) (fun _ => ?_)
 refine st (zr (k := 10) Try.isAgg36 Try.sizeOf36 rfl rfl (CellsAt.all (hS16.blk (i := 2) rfl)) ?_)
 refine stn (zY (v := .agg (e.cells v9).toArray) (c' := (e.cells v9).toArray) Try.sizeOf36 rfl rfl (hS16.blk (i := 1) rfl) (yU ⟨rfl, rfl, rfl, hr12.1.one, rfl, rfl, rfl, rfl, rfl, rfl, trivial⟩) (Nat.le_of_ble_eq_true rfl) rfl ?_)
 intro w17 hp18
 have hS19 := hS16.pt1 hp18
 refine ze ?_
 refine zw ?_
 refine KC (b := b6) Try.results38 Try.isAgg36 Try.sizeOf36 rfl rfl (CellsAt.all (hS19.blk (i := 1) rfl)) ?_
 have hS20 : Sep G W ((RowE (α := Int) own 3 v9 e.deps) :: Rs) w17 := hS19.sel 3 [0] (Nat.le_add_left _ _) rfl rfl
 refine ⟨v9, rfl, hS20⟩

theorem yO {d : Option Tmp} {ty : TypeId} {pos : String} {af : Array Edge} {g : Option (Nat × Bool)} {σ : Env} {w : World} {K : Value → World → Prop} {x : Operand} {b o : Nat} (hx : ev σ x = .pointer (some ⟨b, o, none⟩)) (h : K (.pointer (some ⟨b, o + 2, none⟩)) w) : opV Try.prog ⟨d, .fieldAddr 36 x 1, ty, pos, af, g⟩ σ w K := zR Try.underlying36 rfl rfl (fun w => ⟨0, Try.sizeOf3 w⟩) hx h
theorem zS {d : Option Tmp} {ty : TypeId} {pos : String} {af : Array Edge} {g : Option (Nat × Bool)} {σ : Env} {w : World} {K : Value → World → Prop} {x : Operand} {b o : Nat} (hx : ev σ x = .pointer (some ⟨b, o, none⟩)) (h : K (.pointer (some ⟨b, o + 0, none⟩)) w) : opV Try.prog ⟨d, .fieldAddr 36 x 0, ty, pos, af, g⟩ σ w K := zR Try.underlying36 rfl rfl (fun w => ⟨1, Try.sizeOf33 w⟩) hx h
theorem yM {d : Option Tmp} {ty : TypeId} {pos : String} {af : Array Edge} {g : Option (Nat × Bool)} {σ : Env} {w : World} {K : Value → World → Prop} {x : Operand} {b o : Nat} (hx : ev σ x = .pointer (some ⟨b, o, none⟩)) (h : K (.pointer (some ⟨b, o + 0, none⟩)) w) : opV Try.prog ⟨d, .fieldAddr 33 x 0, ty, pos, af, g⟩ σ w K := zR Try.underlying33 rfl rfl (fun w => ⟨0, Try.sizeOf3 w⟩) hx h
theorem xg {d : Option Tmp} {ty : TypeId} {pos : String} {af : Array Edge} {g : Option (Nat × Bool)} {σ : Env} {w : World} {K : Value → World → Prop} {x : Operand} {b o : Nat} (hx : ev σ x = .pointer (some ⟨b, o, none⟩)) (h : K (.pointer (some ⟨b, o + 1, none⟩)) w) : opV Try.prog ⟨d, .fieldAddr 33 x 1, ty, pos, af, g⟩ σ w K := zR Try.underlying33 rfl rfl (fun w => ⟨0, Try.sizeOf3 w⟩) hx h
theorem yE {p : Nat → Prop} {k : Nat} (h : ∀ i, i < k → p i) (hk : p k) : ∀ i, i < k + 1 → p i := fun i hi => by
  rcases Nat.lt_or_ge i k with h1 | h1
  · exact h i h1
  · obtain rfl : i = k := by omega
    exact hk
theorem VC {G : Nat → Prop} {W w : World} {Rs : List HP} {vl : Value} {l : List Int} (hl : RdS W G vl l)  (hS0 : Sep G W Rs w) : Ret Try.prog 73 [vl, .func (.func 63) #[] #[]] w (fun r w' => ∃ (c : Int), r = (.int .i64 (c) : Value) ∧ (InR c) ∧ (c < 0 ↔ ∀ i, i < l.length → 0 ≤ l.getD i 0) ∧ Sep G W Rs w') := by
 have hls : _ * 8 ≤ _ := hl.small
 refine zp (args := [vl, .func (.func 63) #[] #[]]) Try.func73 rfl rfl ?_
 refine zc ?_
 refine za (by kernel_rfl) (fun _ => ?_)
 refine st (zd (v := .int .i64 (0)) rfl ?_)
 refine ze ?_
 refine zc ?_
 refine zc ?_
 refine za (by kernel_rfl) (fun _ => ?_)
 refine st (zb (v := vl) rfl ?_)
 refine st (zJ (n := l.length) Try.underlying34 rfl hl.sl ?_)
 refine st (zb (v := .int .i64 (0)) rfl ?_)
 refine ze ?_
 refine zt ?_
 refine zP (fun mq σ wq => ∃ (k : Nat) (ρ : Env), mq = l.length - k ∧ σ = zQ ρ [(0, vl), (1, .func (.func 63) #[] #[]), (6, vl), (7, .int .i64 ((l.length : Nat) : Int)), (8, .int .i64 ((k : Nat) : Int))] ∧ (k ≤ l.length) ∧ (∀ i, i < k → 0 ≤ l.getD i 0) ∧ Sep G W Rs wq) ⟨0, _, rfl, zh ⟨rfl, rfl, rfl, rfl, rfl, trivial⟩, Nat.zero_le _, (fun i h => absurd h (Nat.not_lt_zero i)), hS0⟩ ?_
 rintro m2 σ3 w1 ⟨k, ρl1, rfl, rfl, hkk, hm, hS4⟩
 refine zc ?_
 refine za (by kernel_rfl) (fun _ => ?_)
 refine st (zH (k := .i64) (a := ((k : Nat) : Int)) (b := ((l.length : Nat) : Int)) rfl rfl ?_)
 refine ze ?_
 refine zc ?_
 cases hc5 : decide (((k : Nat) : Int) < ((l.length : Nat) : Int))
 ·skip
  have hc5 := of_decide_eq_false hc5
  refine zi rfl ?_
  refine zO ?_
  refine zF ?_
  refine zc ?_
  refine za (by kernel_rfl) (fun _ => ?_)
  refine st (zd (v := .int .i64 (-1)) rfl ?_)
  refine ze ?_
  refine zw ?_
  refine zL Try.results73 (show _ = (.int .i64 (-1) : Value) from rfl) ?_
  refine ⟨-1, rfl, ?_, ?_, hS4⟩
  · decide
  · exact ⟨fun _ i hi => hm i (by omega), fun _ => by decide⟩
 ·skip
  have hc5 := of_decide_eq_true hc5
  refine zk rfl ?_
  refine zo ?_
  refine zc ?_
  refine zt ?_
  refine zc ?_
  refine za (by kernel_rfl) (fun _ => ?_)
  refine st (zb (v := .int .i64 ((k : Nat) : Int)) rfl ?_)
  refine st (zd (v := .int .i64 ((k : Nat) : Int)) rfl ?_)
  refine ze ?_
  refine zc ?_
  refine za (by kernel_rfl) (fun _ => ?_)
  refine st (zb (v := .func (.func 63) #[] #[]) rfl ?_)
  refine st (zb (v := vl) rfl ?_)
  refine st (zb (v := .int .i64 ((k : Nat) : Int)) rfl ?_)
  have hi6 : k < l.length := (by first | omega | (simp only [lens]; omega))
  refine st (zl (k := 1) (i := k) Try.underlying34 Try.sizeOf3 rfl hl.sl rfl hi6 ?_)
  have hi8 : k < l.length := (by first | omega | (simp only [lens]; omega))
  obtain ⟨hce7, hxe7⟩ := hl.int hi8
  rw [← zm 0 hi8] at hce7 hxe7
  have hcw9 := hS4.cells hce7 (hl.foot (ne_of_lt hi8))
  refine st (zg (v := .int .i64 ((l.getD k 0))) Try.isAgg3 rfl (hcw9.get (j := 0) rfl) ?_)
  refine st (zj (f := 63) (vals := [.int .i64 ((l.getD k 0))]) (cap := []) rfl rfl Try.call63 (KN (x := (l.getD k 0)) hxe7 hS4) ?_)
  rintro _ w10 ⟨rfl, hS11⟩
  refine ze ?_
  cases hc12 : decide ((l.getD k 0) < 0)
  ·skip
   have hc12 := of_decide_eq_false hc12
   refine zi rfl ?_
   refine zo ?_
   refine za (by kernel_rfl) (fun _ => ?_)
   have hr13 : InR ((k + 1 : Nat) : Int) := by first | omega | (simp only [lens]; omega)
   refine st (zB (r := ((k + 1 : Nat) : Int)) (k := .i64) (a := ((k : Nat) : Int)) (b := 1) rfl rfl (by rw [show (((k : Nat) : Int) + 1 : Int) = ((k + 1 : Nat) : Int) by first | omega | (simp only [lens]; omega)]; exact zy hr13) ?_)
   refine st (zb (v := .int .i64 ((k + 1 : Nat) : Int)) rfl ?_)
   refine ze ?_
   exact ⟨_, by omega, k + 1, _, rfl, zh ⟨rfl, rfl, rfl, rfl, rfl, trivial⟩, by omega, (yE hm (by omega)), hS11⟩
  ·skip
   have hc12 := of_decide_eq_true hc12
   refine zk rfl ?_
   refine zc ?_
   refine za (by kernel_rfl) (fun _ => ?_)
   refine st (zb (v := .int .i64 ((k : Nat) : Int)) rfl ?_)
   refine st (zd (v := .int .i64 ((k : Nat) : Int)) rfl ?_)
   refine ze ?_
   refine zw ?_
   refine zL Try.results73 (show _ = (.int .i64 ((k : Nat) : Int) : Value) from rfl) ?_
   refine ⟨((k : Nat) : Int), rfl, ?_, ?_, hS11⟩
   · show InR ((k : Nat) : Int); omega
   · refine ⟨fun h => by omega, fun h => ?_⟩
     have h8 := h k (by omega)
     omega

end Go.Proofs.Ytmiihhbeclhaoaa
end

section
/- Steps of the proofs of this seat: part A3. -/
set_option maxRecDepth 8000
set_option maxHeartbeats 4000000
namespace Go.Proofs.Ytmiihhbeclhaoaa
open Go.Proofs Go.RowKit

def xU (l : List Int) : Bool := l.any (fun x => decide (x < 0))
theorem negL_iff {l : List Int} : xU l = false ↔ ∀ i, i < l.length → 0 ≤ l.getD i 0 := by
  unfold xU
  rw [List.any_eq_false]
  constructor
  · intro h i hi
    have := h l[i] (List.getElem_mem hi)
    rw [zm 0 hi]
    simpa using this
  · intro h x hx
    obtain ⟨i, hi, rfl⟩ := List.getElem_of_mem hx
    have := h i hi
    rw [zm 0 hi] at this
    simpa using this
theorem Kn {l : List Int} {c : Int} (h : c < 0 ↔ xU l = false) : decide (0 ≤ c) = xU l := by
  cases hb : xU l
  · exact decide_eq_false (by have := h.2 hb; omega)
  · refine decide_eq_true ?_
    rcases Int.lt_or_le c 0 with h1 | h1
    · rw [h.1 h1] at hb; cases hb
    · exact h1
theorem Xf {G : Nat → Prop} {W w : World} {Rs : List HP} {vl : Value} {l : List Int} (hl : RdS W G vl l)  (hS0 : Sep G W Rs w) : Ret Try.prog 64 [vl, .func (.func 63) #[] #[]] w (fun r w' => r = (.bool ((xU l)) : Value) ∧ Sep G W Rs w') := by
 have hls : _ * 8 ≤ _ := hl.small
 refine zp (args := [vl, .func (.func 63) #[] #[]]) Try.func64 rfl rfl ?_
 refine zc ?_
 refine za (by kernel_rfl) (fun _ => ?_)
 refine st (zd (v := .bool false) rfl ?_)
 refine ze ?_
 refine zc ?_
 refine za (by kernel_rfl) (fun _ => ?_)
 refine st (zb (v := vl) rfl ?_)
 refine st (zb (v := .func (.func 63) #[] #[]) rfl ?_)
 refine st (zj (f := 73) (vals := [vl, .func (.func 63) #[] #[]]) (cap := []) rfl rfl Try.call73 (VC (l := l) (vl := vl) hl hS0) ?_)
 rintro _ w4 ⟨c1, rfl, hc92, hcn3, hS5⟩
 refine st (xv (k := .i64) (a := c1) (b := 0) rfl rfl ?_)
 refine st (zd (v := .bool (decide (0 ≤ c1))) rfl ?_)
 refine ze ?_
 refine zw ?_
 refine zL Try.results64 (show _ = (.bool (decide (0 ≤ c1)) : Value) from rfl) ?_
 refine ⟨?_, hS5⟩
 congr 1
 exact Kn (hcn3.trans negL_iff.symm)

end Go.Proofs.Ytmiihhbeclhaoaa
end

section
/- Steps of the proofs of this seat: part A4. -/
set_option maxRecDepth 8000
set_option maxHeartbeats 4000000
namespace Go.Proofs.Ytmiihhbeclhaoaa
open Go.Proofs Go.RowKit

def zI (e : Ev) (n : Int) : Int :=
  if (((((decide (e.origin < 0) || decide (n ≤ e.origin)) || decide (min e.seq e.lam < 1)) || decide (min e.agg e.key < 0)) || !decide (((e.deps.length : Nat) : Int) = n)) || xU e.deps) = true then 1
  else if (!decide (e.deps.getD e.origin.toNat 0 = e.seq - 1)) = true then 9
  else if (decide (e.op < 1) || decide (5 < e.op)) = true then 2
  else if ((decide (min e.typ e.field < 0) || decide (8 ≤ e.typ)) || decide (8 ≤ e.field)) = true then 8
  else 0
theorem XO {d : Option Tmp} {ty : TypeId} {pos : String} {af : Array Edge} {g : Option (Nat × Bool)} {σ : Env} {w : World} {K : Value → World → Prop} {x : Operand} {b o : Nat} (hx : ev σ x = .pointer (some ⟨b, o, none⟩)) (h : K (.pointer (some ⟨b, o + 5, none⟩)) w) : opV Try.prog ⟨d, .fieldAddr 36 x 4, ty, pos, af, g⟩ σ w K := zR Try.underlying36 rfl rfl (fun w => ⟨0, Try.sizeOf3 w⟩) hx h
theorem XV {d : Option Tmp} {ty : TypeId} {pos : String} {af : Array Edge} {g : Option (Nat × Bool)} {σ : Env} {w : World} {K : Value → World → Prop} {x : Operand} {b o : Nat} (hx : ev σ x = .pointer (some ⟨b, o, none⟩)) (h : K (.pointer (some ⟨b, o + 9, none⟩)) w) : opV Try.prog ⟨d, .fieldAddr 36 x 8, ty, pos, af, g⟩ σ w K := zR Try.underlying36 rfl rfl (fun w => ⟨0, Try.sizeOf3 w⟩) hx h
theorem Yf {d : Option Tmp} {ty : TypeId} {pos : String} {af : Array Edge} {g : Option (Nat × Bool)} {σ : Env} {w : World} {K : Value → World → Prop} {x : Operand} {b o : Nat} (hx : ev σ x = .pointer (some ⟨b, o, none⟩)) (h : K (.pointer (some ⟨b, o + 7, none⟩)) w) : opV Try.prog ⟨d, .fieldAddr 36 x 6, ty, pos, af, g⟩ σ w K := zR Try.underlying36 rfl rfl (fun w => ⟨0, Try.sizeOf3 w⟩) hx h
theorem ZW {d : Option Tmp} {ty : TypeId} {pos : String} {af : Array Edge} {g : Option (Nat × Bool)} {σ : Env} {w : World} {K : Value → World → Prop} {x : Operand} {b o : Nat} (hx : ev σ x = .pointer (some ⟨b, o, none⟩)) (h : K (.pointer (some ⟨b, o + 4, none⟩)) w) : opV Try.prog ⟨d, .fieldAddr 36 x 3, ty, pos, af, g⟩ σ w K := zR Try.underlying36 rfl rfl (fun w => ⟨0, Try.sizeOf3 w⟩) hx h
theorem ZZ {d : Option Tmp} {ty : TypeId} {pos : String} {af : Array Edge} {g : Option (Nat × Bool)} {σ : Env} {w : World} {K : Value → World → Prop} {x : Operand} {b o : Nat} (hx : ev σ x = .pointer (some ⟨b, o, none⟩)) (h : K (.pointer (some ⟨b, o + 6, none⟩)) w) : opV Try.prog ⟨d, .fieldAddr 36 x 5, ty, pos, af, g⟩ σ w K := zR Try.underlying36 rfl rfl (fun w => ⟨0, Try.sizeOf3 w⟩) hx h
theorem Kt {G : Nat → Prop} {W w : World} {Rs : List HP} {e : Ev} {de0 : Value} (hde0 : RdS W G de0 e.deps) (oe : e.Ok) {n : Int} (hn : InR n) (hS0 : Sep G W Rs w) : Ret Try.prog 36 [.agg (e.cells de0).toArray, .int .i64 (n)] w (fun r w' => r = (.int .i64 ((zI e n)) : Value) ∧ Sep G W Rs w') := by
 have hde0s : _ * 8 ≤ _ := hde0.small
 refine zp (args := [.agg (e.cells de0).toArray, .int .i64 (n)]) Try.func36 rfl rfl ?_
 refine zc ?_
 refine za (by kernel_rfl) (fun _ => ?_)
 refine st (yg (v := .agg (e.cells de0).toArray) rfl ?_)
 intro w3 b2 hn1
 have hS4 := hS0.new hn1
 refine st (zd (v := .int .i64 (0)) rfl ?_)
 refine ze ?_
 refine zc ?_
 refine za (by kernel_rfl) (fun _ => ?_)
 refine st (zd (v := .func (.func 63) #[] #[]) rfl ?_)
 refine ze ?_
 refine zc ?_
 refine zt ?_
 refine zc ?_
 refine zW (by kernel_rfl) ?_
 refine st (zS rfl ?_)
 refine st (yM rfl ?_)
 refine st (zg (v := .int .i64 (e.origin)) Try.isAgg3 rfl (zf (hS4.blk (i := 0) rfl) rfl) ?_)
 refine st (zH (k := .i64) (a := e.origin) (b := 0) rfl rfl ?_)
 refine st (zb (v := .bool (decide (e.origin < 0))) rfl ?_)
 refine stc (V := .pointer (some ⟨b2, 0, none⟩)) rfl rfl (fun hb5 => ?_) ?_
 ·have hl6 := hb5
  have hl6 := of_decide_eq_false hl6
  exact zS rfl ⟨rfl, rfl⟩
 refine stc (V := .pointer (some ⟨b2, 0, none⟩)) rfl rfl (fun hb7 => ?_) ?_
 ·have hl8 := hb7
  have hl8 := of_decide_eq_false hl8
  exact yM (show _ = (.pointer (some ⟨b2, 0, none⟩) : Value) from (if_pos hb7)) ⟨rfl, rfl⟩
 refine stc (V := .int .i64 (e.origin)) rfl rfl (fun hb9 => ?_) ?_
 ·have hl10 := hb9
  have hl10 := of_decide_eq_false hl10
  exact zg (v := .int .i64 (e.origin)) Try.isAgg3 (show _ = (.pointer (some ⟨b2, 0, none⟩) : Value) from (if_pos hb9)) (zf (hS4.blk (i := 0) rfl) rfl) ⟨rfl, rfl⟩
 refine stc (V := .int .i64 (n)) rfl rfl (fun hb11 => ?_) ?_
 ·have hl12 := hb11
  have hl12 := of_decide_eq_false hl12
  exact zb (v := .int .i64 (n)) rfl ⟨rfl, rfl⟩
 refine stc (V := .bool (decide (n ≤ e.origin))) rfl rfl (fun hb13 => ?_) ?_
 ·have hl14 := hb13
  have hl14 := of_decide_eq_false hl14
  exact xv (k := .i64) (a := e.origin) (b := n) (show _ = (.int .i64 (e.origin) : Value) from (if_pos hb13)) (show _ = (.int .i64 (n) : Value) from (if_pos hb13)) ⟨rfl, rfl⟩
 refine st (zX (b := decide (e.origin < 0)) (b' := decide (n ≤ e.origin)) rfl (fun hbp => (show _ = (.bool (decide (n ≤ e.origin)) : Value) from (if_pos hbp))) ?_)
 refine st (zb (v := .bool ((decide (e.origin < 0)) || (decide (n ≤ e.origin)))) rfl ?_)
 refine stc (V := .pointer (some ⟨b2, 0, none⟩)) rfl rfl (fun hb15 => ?_) ?_
 ·have hl16 := hb15
  try simp only [zx] at hl16
  exact zS rfl ⟨rfl, rfl⟩
 refine stc (V := .pointer (some ⟨b2, 1, none⟩)) rfl rfl (fun hb17 => ?_) ?_
 ·have hl18 := hb17
  try simp only [zx] at hl18
  exact xg (show _ = (.pointer (some ⟨b2, 0, none⟩) : Value) from (if_pos hb17)) ⟨rfl, rfl⟩
 refine stc (V := .int .i64 (e.seq)) rfl rfl (fun hb19 => ?_) ?_
 ·have hl20 := hb19
  try simp only [zx] at hl20
  exact zg (v := .int .i64 (e.seq)) Try.isAgg3 (show _ = (.pointer (some ⟨b2, 1, none⟩) : Value) from (if_pos hb19)) (zf (hS4.blk (i := 0) rfl) rfl) ⟨rfl, rfl⟩
 refine stc (V := .pointer (some ⟨b2, 2, none⟩)) rfl rfl (fun hb21 => ?_) ?_
 ·have hl22 := hb21
  try simp only [zx] at hl22
  exact yO rfl ⟨rfl, rfl⟩
 refine stc (V := .int .i64 (e.lam)) rfl rfl (fun hb23 => ?_) ?_
 ·have hl24 := hb23
  try simp only [zx] at hl24
  exact zg (v := .int .i64 (e.lam)) Try.isAgg3 (show _ = (.pointer (some ⟨b2, 2, none⟩) : Value) from (if_pos hb23)) (zf (hS4.blk (i := 0) rfl) rfl) ⟨rfl, rfl⟩
 refine stc (V := .int .i64 (min e.seq e.lam)) rfl rfl (fun hb25 => ?_) ?_
 ·have hl26 := hb25
  try simp only [zx] at hl26
  exact Zw (k := .i64) (a := e.seq) (b := e.lam) (show _ = (.int .i64 (e.seq) : Value) from (if_pos hb25)) (show _ = (.int .i64 (e.lam) : Value) from (if_pos hb25)) ⟨rfl, rfl⟩
 refine stc (V := .bool (decide ((min e.seq e.lam) < 1))) rfl rfl (fun hb27 => ?_) ?_
 ·have hl28 := hb27
  try simp only [zx] at hl28
  exact zH (k := .i64) (a := min e.seq e.lam) (b := 1) (show _ = (.int .i64 (min e.seq e.lam) : Value) from (if_pos hb27)) rfl ⟨rfl, rfl⟩
 refine st (zX (b := (decide (e.origin < 0)) || (decide (n ≤ e.origin))) (b' := decide ((min e.seq e.lam) < 1)) rfl (fun hbp => (show _ = (.bool (decide ((min e.seq e.lam) < 1)) : Value) from (if_pos hbp))) ?_)
 refine st (zb (v := .bool (((decide (e.origin < 0)) || (decide (n ≤ e.origin))) || (decide ((min e.seq e.lam) < 1)))) rfl ?_)
 refine stc (V := .pointer (some ⟨b2, 5, none⟩)) rfl rfl (fun hb29 => ?_) ?_
 ·have hl30 := hb29
  try simp only [zx] at hl30
  exact XO rfl ⟨rfl, rfl⟩
 refine stc (V := .int .i64 (e.agg)) rfl rfl (fun hb31 => ?_) ?_
 ·have hl32 := hb31
  try simp only [zx] at hl32
  exact zg (v := .int .i64 (e.agg)) Try.isAgg3 (show _ = (.pointer (some ⟨b2, 5, none⟩) : Value) from (if_pos hb31)) (zf (hS4.blk (i := 0) rfl) rfl) ⟨rfl, rfl⟩
 refine stc (V := .pointer (some ⟨b2, 9, none⟩)) rfl rfl (fun hb33 => ?_) ?_
 ·have hl34 := hb33
  try simp only [zx] at hl34
  exact XV rfl ⟨rfl, rfl⟩
 refine stc (V := .int .i64 (e.key)) rfl rfl (fun hb35 => ?_) ?_
 ·have hl36 := hb35
  try simp only [zx] at hl36
  exact zg (v := .int .i64 (e.key)) Try.isAgg3 (show _ = (.pointer (some ⟨b2, 9, none⟩) : Value) from (if_pos hb35)) (zf (hS4.blk (i := 0) rfl) rfl) ⟨rfl, rfl⟩
 refine stc (V := .int .i64 (min e.agg e.key)) rfl rfl (fun hb37 => ?_) ?_
 ·have hl38 := hb37
  try simp only [zx] at hl38
  exact Zw (k := .i64) (a := e.agg) (b := e.key) (show _ = (.int .i64 (e.agg) : Value) from (if_pos hb37)) (show _ = (.int .i64 (e.key) : Value) from (if_pos hb37)) ⟨rfl, rfl⟩
 refine stc (V := .bool (decide ((min e.agg e.key) < 0))) rfl rfl (fun hb39 => ?_) ?_
 ·have hl40 := hb39
  try simp only [zx] at hl40
  exact zH (k := .i64) (a := min e.agg e.key) (b := 0) (show _ = (.int .i64 (min e.agg e.key) : Value) from (if_pos hb39)) rfl ⟨rfl, rfl⟩
 refine st (zX (b := ((decide (e.origin < 0)) || (decide (n ≤ e.origin))) || (decide ((min e.seq e.lam) < 1))) (b' := decide ((min e.agg e.key) < 0)) rfl (fun hbp => (show _ = (.bool (decide ((min e.agg e.key) < 0)) : Value) from (if_pos hbp))) ?_)
 refine st (zb (v := .bool ((((decide (e.origin < 0)) || (decide (n ≤ e.origin))) || (decide ((min e.seq e.lam) < 1))) || (decide ((min e.agg e.key) < 0)))) rfl ?_)
 refine stc (V := .pointer (some ⟨b2, 3, none⟩)) rfl rfl (fun hb41 => ?_) ?_
 ·have hl42 := hb41
  try simp only [zx] at hl42
  exact yB rfl ⟨rfl, rfl⟩
 refine stc (V := de0) rfl rfl (fun hb43 => ?_) ?_
 ·have hl44 := hb43
  try simp only [zx] at hl44
  exact zg (v := de0) Try.isAgg34 (show _ = (.pointer (some ⟨b2, 3, none⟩) : Value) from (if_pos hb43)) (zf (hS4.blk (i := 0) rfl) rfl) ⟨rfl, rfl⟩
 refine stc (V := .int .i64 ((e.deps.length : Nat) : Int)) rfl rfl (fun hb45 => ?_) ?_
 ·have hl46 := hb45
  try simp only [zx] at hl46
  exact zJ (n := e.deps.length) Try.underlying34 (show _ = (de0 : Value) from (if_pos hb45)) hde0.sl ⟨rfl, rfl⟩
 refine stc (V := .int .i64 (n)) rfl rfl (fun hb47 => ?_) ?_
 ·have hl48 := hb47
  try simp only [zx] at hl48
  exact zb (v := .int .i64 (n)) rfl ⟨rfl, rfl⟩
 refine stc (V := .bool (!decide (((e.deps.length : Nat) : Int) = n))) rfl rfl (fun hb49 => ?_) ?_
 ·have hl50 := hb49
  try simp only [zx] at hl50
  exact yH (k := .i64) (a := ((e.deps.length : Nat) : Int)) (b := n) (show _ = (.int .i64 ((e.deps.length : Nat) : Int) : Value) from (if_pos hb49)) (show _ = (.int .i64 (n) : Value) from (if_pos hb49)) ⟨rfl, rfl⟩
 refine st (zX (b := (((decide (e.origin < 0)) || (decide (n ≤ e.origin))) || (decide ((min e.seq e.lam) < 1))) || (decide ((min e.agg e.key) < 0))) (b' := !decide (((e.deps.length : Nat) : Int) = n)) rfl (fun hbp => (show _ = (.bool (!decide (((e.deps.length : Nat) : Int) = n)) : Value) from (if_pos hbp))) ?_)
 refine st (zb (v := .bool (((((decide (e.origin < 0)) || (decide (n ≤ e.origin))) || (decide ((min e.seq e.lam) < 1))) || (decide ((min e.agg e.key) < 0))) || (!decide (((e.deps.length : Nat) : Int) = n)))) rfl ?_)
 refine stc (V := .pointer (some ⟨b2, 3, none⟩)) rfl rfl (fun hb51 => ?_) ?_
 ·have hl52 := hb51
  try simp only [zx] at hl52
  exact yB rfl ⟨rfl, rfl⟩
 refine stc (V := de0) rfl rfl (fun hb53 => ?_) ?_
 ·have hl54 := hb53
  try simp only [zx] at hl54
  exact zg (v := de0) Try.isAgg34 (show _ = (.pointer (some ⟨b2, 3, none⟩) : Value) from (if_pos hb53)) (zf (hS4.blk (i := 0) rfl) rfl) ⟨rfl, rfl⟩
 refine stc (V := .func (.func 63) #[] #[]) rfl rfl (fun hb55 => ?_) ?_
 ·have hl56 := hb55
  try simp only [zx] at hl56
  exact zb (v := .func (.func 63) #[] #[]) rfl ⟨rfl, rfl⟩
 refine stcw (V := .bool ((xU e.deps))) (fun _ wq => Sep G W ((Blk b2 (e.cells de0).toArray 36) :: Rs) wq) hS4 rfl rfl (fun hb57 => ?_) (fun w61 hS62 => ?_)
 ·have hl58 := hb57
  try simp only [zx] at hl58
  refine (zj (f := 64) (vals := [de0, .func (.func 63) #[] #[]]) (cap := []) rfl (xc ⟨(show _ = (de0 : Value) from (if_pos hb57)), (show _ = (.func (.func 63) #[] #[] : Value) from (if_pos hb57)), trivial⟩) Try.call64 (Xf (l := e.deps) (vl := de0) hde0 hS4) ?_)
  rintro _ w59 ⟨rfl, hS60⟩
  exact ⟨rfl, hS60⟩
 refine st (zX (b := ((((decide (e.origin < 0)) || (decide (n ≤ e.origin))) || (decide ((min e.seq e.lam) < 1))) || (decide ((min e.agg e.key) < 0))) || (!decide (((e.deps.length : Nat) : Int) = n))) (b' := (xU e.deps)) rfl (fun hbp => (show _ = (.bool ((xU e.deps)) : Value) from (if_pos hbp))) ?_)
 refine st (zd (v := .bool ((((((decide (e.origin < 0)) || (decide (n ≤ e.origin))) || (decide ((min e.seq e.lam) < 1))) || (decide ((min e.agg e.key) < 0))) || (!decide (((e.deps.length : Nat) : Int) = n))) || (xU e.deps))) rfl ?_)
 refine ze ?_
 cases hc63 : (((((decide (e.origin < 0)) || (decide (n ≤ e.origin))) || (decide ((min e.seq e.lam) < 1))) || (decide ((min e.agg e.key) < 0))) || (!decide (((e.deps.length : Nat) : Int) = n))) || (xU e.deps)
 ·skip
  have hc63r := hc63
  try simp only [zx] at hc63
  refine zi rfl ?_
  refine zc ?_
  refine zM (WF [fun vals wq => Sep G W ((Blk b2 (e.cells de0).toArray 36) :: Rs) wq]) (AF [Vl 0 (.pointer (some ⟨b2, 3, none⟩)), Vl 1 (de0), Vl 2 (.pointer (some ⟨b2, 0, none⟩)), Vl 3 (.pointer (some ⟨b2, 0, none⟩)), Vl 4 (.int .i64 (e.origin)), Vl 5 (.pointer (some ⟨sb de0, so de0 + e.origin.toNat * 1, none⟩)), Vl 6 (.int .i64 ((e.deps.getD e.origin.toNat 0))), Vl 7 (.pointer (some ⟨b2, 0, none⟩)), Vl 8 (.pointer (some ⟨b2, 1, none⟩)), Vl 9 (.int .i64 (e.seq)), Vl 10 (.int .i64 (e.seq - 1)), Vl 11 (.bool (!decide ((e.deps.getD e.origin.toNat 0) = (e.seq - 1)))), Vl 12 (.bool (!decide ((e.deps.getD e.origin.toNat 0) = (e.seq - 1))))]) [[], [0], [], [2], [2, 3], [0, 1, 2, 3, 4], [0, 1, 2, 3, 4, 5], [], [7], [7, 8], [7, 8, 9], [0, 1, 2, 3, 4, 5, 6, 7, 8, 9, 10], [0, 1, 2, 3, 4, 5, 6, 7, 8, 9, 10, 11]] [] [(0, 0), (0, 0), (0, 0), (0, 0), (0, 0), (0, 0), (0, 0), (0, 0), (0, 0), (0, 0), (0, 0), (0, 0), (0, 0)] (by kernel_rfl) (by kernel_rfl) (by kernel_rfl) rfl (by kernel_rfl) (by kernel_rfl) (fun _ h1 h2 h3 h4 _ => hS62.same h1 h2 h3 h4) ?_ (yc ⟨dA, dA, dA, dA, dA, dA, dA, dA, dA, dA, dA, dA, dA, trivial⟩) ⟨?_, ?_, ?_, ?_, ?_, ?_, ?_, ?_, ?_, ?_, ?_, ?_, ?_, trivial⟩ ?_
  ·intro k vals vals' w hv h
   match k, h with
   | 0, h => exact h
   | _ + 1, _ => trivial
  ·intro k166 vals w167 h170 h171 hW169 hA168
   refine obl rfl ?_
   exact yB rfl (fun vals' hv _ => ⟨rfl, hv⟩)
  ·intro k172 vals w173 h176 h177 hW175 hA174
   obtain rfl : k172 = 0 := Nat.le_antisymm h177 h176
   have hS178 : Sep _ _ _ _ := hW175
   have e179 := hA174 0 (by decide)
   refine obl rfl ?_
   exact zg (v := de0) Try.isAgg34 e179 (zf (hS178.blk (i := 0) rfl) rfl) (fun vals' hv _ => ⟨rfl, hv⟩)
  ·intro k180 vals w181 h184 h185 hW183 hA182
   refine obl rfl ?_
   exact zS rfl (fun vals' hv _ => ⟨rfl, hv⟩)
  ·intro k186 vals w187 h190 h191 hW189 hA188
   have e192 := hA188 2 (by decide)
   refine obl rfl ?_
   exact yM e192 (fun vals' hv _ => ⟨rfl, hv⟩)
  ·intro k193 vals w194 h197 h198 hW196 hA195
   obtain rfl : k193 = 0 := Nat.le_antisymm h198 h197
   have hS199 : Sep _ _ _ _ := hW196
   have e200 := hA195 3 (by decide)
   refine obl rfl ?_
   exact zg (v := .int .i64 (e.origin)) Try.isAgg3 e200 (zf (hS199.blk (i := 0) rfl) rfl) (fun vals' hv _ => ⟨rfl, hv⟩)
  ·intro k201 vals w202 h205 h206 hW204 hA203
   obtain rfl : k201 = 0 := Nat.le_antisymm h206 h205
   have hS207 : Sep _ _ _ _ := hW204
   have e208 := hA203 1 (by decide)
   have e209 := hA203 4 (by decide)
   refine obl rfl ?_
   have hi210 : e.origin.toNat < e.deps.length := (by first | omega | (simp only [lens]; omega))
   exact yv (k := 1) (i := e.origin) Try.underlying34 Try.sizeOf3 e208 hde0.sl e209 ⟨by omega, by omega⟩ (fun vals' hv _ => ⟨rfl, hv⟩)
  ·intro k211 vals w212 h215 h216 hW214 hA213
   obtain rfl : k211 = 0 := Nat.le_antisymm h216 h215
   have hS217 : Sep _ _ _ _ := hW214
   have e218 := hA213 5 (by decide)
   refine obl rfl ?_
   have hi220 : e.origin.toNat < e.deps.length := (by first | omega | (simp only [lens]; omega))
   obtain ⟨hce219, hxe219⟩ := hde0.int hi220
   rw [← zm 0 hi220] at hce219 hxe219
   have hcw221 := hS217.cells hce219 (hde0.foot (ne_of_lt hi220))
   exact zg (v := .int .i64 ((e.deps.getD e.origin.toNat 0))) Try.isAgg3 e218 (hcw221.get (j := 0) rfl) (fun vals' hv _ => ⟨rfl, hv⟩)
  ·intro k222 vals w223 h226 h227 hW225 hA224
   refine obl rfl ?_
   exact zS rfl (fun vals' hv _ => ⟨rfl, hv⟩)
  ·intro k228 vals w229 h232 h233 hW231 hA230
   have e234 := hA230 7 (by decide)
   refine obl rfl ?_
   exact xg e234 (fun vals' hv _ => ⟨rfl, hv⟩)
  ·intro k235 vals w236 h239 h240 hW238 hA237
   obtain rfl : k235 = 0 := Nat.le_antisymm h240 h239
   have hS241 : Sep _ _ _ _ := hW238
   have e242 := hA237 8 (by decide)
   refine obl rfl ?_
   exact zg (v := .int .i64 (e.seq)) Try.isAgg3 e242 (zf (hS241.blk (i := 0) rfl) rfl) (fun vals' hv _ => ⟨rfl, hv⟩)
  ·intro k243 vals w244 h247 h248 hW246 hA245
   obtain rfl : k243 = 0 := Nat.le_antisymm h248 h247
   have hS249 : Sep _ _ _ _ := hW246
   have e250 := hA245 9 (by decide)
   refine obl rfl ?_
   have hr251 : InR (e.seq - 1) := (by have h9 := oe.seq; omega)
   exact Za (r := e.seq - 1) (k := .i64) (a := e.seq) (b := 1) e250 rfl (by rw [show (e.seq - 1 : Int) = e.seq - 1 from rfl]; exact zy hr251) (fun vals' hv _ => ⟨rfl, hv⟩)
  ·intro k252 vals w253 h256 h257 hW255 hA254
   obtain rfl : k252 = 0 := Nat.le_antisymm h257 h256
   have hS258 : Sep _ _ _ _ := hW255
   have e259 := hA254 6 (by decide)
   have e260 := hA254 10 (by decide)
   refine obl rfl ?_
   exact yH (k := .i64) (a := (e.deps.getD e.origin.toNat 0)) (b := e.seq - 1) e259 e260 (fun vals' hv _ => ⟨rfl, hv⟩)
  ·intro k261 vals w262 h265 h266 hW264 hA263
   have e267 := hA263 11 (by decide)
   refine obl rfl ?_
   exact zd (v := .bool (!decide ((e.deps.getD e.origin.toNat 0) = (e.seq - 1)))) e267 (fun vals' hv _ => ⟨rfl, hv⟩)
  intro vals w268 hW269 hA270
  have hS271 : Sep _ _ _ _ := hW269
  have e272 := hA270 12 (by decide)
  refine yb (kv := [(0, .agg (e.cells de0).toArray), (1, .int .i64 (n)), (2, .pointer (some ⟨b2, 0, none⟩)), (4, .int .i64 (0)), (5, .func (.func 63) #[] #[]), (7, .pointer (some ⟨b2, 0, none⟩)), (8, .pointer (some ⟨b2, 0, none⟩)), (9, .int .i64 (e.origin)), (10, .bool (decide (e.origin < 0))), (11, .bool (decide (e.origin < 0))), (17, .bool ((decide (e.origin < 0)) || (decide (n ≤ e.origin)))), (18, .bool ((decide (e.origin < 0)) || (decide (n ≤ e.origin)))), (26, .bool (((decide (e.origin < 0)) || (decide (n ≤ e.origin))) || (decide ((min e.seq e.lam) < 1)))), (27, .bool (((decide (e.origin < 0)) || (decide (n ≤ e.origin))) || (decide ((min e.seq e.lam) < 1)))), (34, .bool ((((decide (e.origin < 0)) || (decide (n ≤ e.origin))) || (decide ((min e.seq e.lam) < 1))) || (decide ((min e.agg e.key) < 0)))), (35, .bool ((((decide (e.origin < 0)) || (decide (n ≤ e.origin))) || (decide ((min e.seq e.lam) < 1))) || (decide ((min e.agg e.key) < 0)))), (41, .bool (((((decide (e.origin < 0)) || (decide (n ≤ e.origin))) || (decide ((min e.seq e.lam) < 1))) || (decide ((min e.agg e.key) < 0))) || (!decide (((e.deps.length : Nat) : Int) = n)))), (42, .bool (((((decide (e.origin < 0)) || (decide (n ≤ e.origin))) || (decide ((min e.seq e.lam) < 1))) || (decide ((min e.agg e.key) < 0))) || (!decide (((e.deps.length : Nat) : Int) = n)))), (47, .bool false), (6, .bool false), (48, .bool (!decide ((e.deps.getD e.origin.toNat 0) = (e.seq - 1))))]) ⟨rfl, rfl, rfl, rfl, rfl, rfl, rfl, rfl, rfl, rfl, rfl, rfl, rfl, rfl, rfl, rfl, rfl, rfl, rfl, rfl, (by exact e272), trivial⟩ (fun ρw268 => ?_)
  refine ze ?_
  cases hc273 : !decide ((e.deps.getD e.origin.toNat 0) = (e.seq - 1))
  ·skip
   have hc273r := hc273
   have hc273 := yh hc273
   refine zi rfl ?_
   refine zc ?_
   refine zW (by kernel_rfl) ?_
   refine st (Yf rfl ?_)
   refine st (zg (v := .int .i64 (e.op)) Try.isAgg3 rfl (zf (hS271.blk (i := 0) rfl) rfl) ?_)
   refine st (zH (k := .i64) (a := e.op) (b := 1) rfl rfl ?_)
   refine st (zb (v := .bool (decide (e.op < 1))) rfl ?_)
   refine stc (V := .pointer (some ⟨b2, 7, none⟩)) rfl rfl (fun hb274 => ?_) ?_
   ·have hl275 := hb274
    have hl275 := of_decide_eq_false hl275
    exact Yf rfl ⟨rfl, rfl⟩
   refine stc (V := .int .i64 (e.op)) rfl rfl (fun hb276 => ?_) ?_
   ·have hl277 := hb276
    have hl277 := of_decide_eq_false hl277
    exact zg (v := .int .i64 (e.op)) Try.isAgg3 (show _ = (.pointer (some ⟨b2, 7, none⟩) : Value) from (if_pos hb276)) (zf (hS271.blk (i := 0) rfl) rfl) ⟨rfl, rfl⟩
   refine stc (V := .bool (decide (5 < e.op))) rfl rfl (fun hb278 => ?_) ?_
   ·have hl279 := hb278
    have hl279 := of_decide_eq_false hl279
    exact xC (k := .i64) (a := e.op) (b := 5) (show _ = (.int .i64 (e.op) : Value) from (if_pos hb278)) rfl ⟨rfl, rfl⟩
   refine st (zX (b := decide (e.op < 1)) (b' := decide (5 < e.op)) rfl (fun hbp => (show _ = (.bool (decide (5 < e.op)) : Value) from (if_pos hbp))) ?_)
   refine st (zd (v := .bool ((decide (e.op < 1)) || (decide (5 < e.op)))) rfl ?_)
   refine ze ?_
   cases hc280 : (decide (e.op < 1)) || (decide (5 < e.op))
   ·skip
    have hc280r := hc280
    try simp only [zx] at hc280
    refine zi rfl ?_
    refine zc ?_
    refine zW (by kernel_rfl) ?_
    refine st (ZW rfl ?_)
    refine st (zg (v := .int .i64 (e.typ)) Try.isAgg3 rfl (zf (hS271.blk (i := 0) rfl) rfl) ?_)
    refine st (ZZ rfl ?_)
    refine st (zg (v := .int .i64 (e.field)) Try.isAgg3 rfl (zf (hS271.blk (i := 0) rfl) rfl) ?_)
    refine st (Zw (k := .i64) (a := e.typ) (b := e.field) rfl rfl ?_)
    refine st (zH (k := .i64) (a := min e.typ e.field) (b := 0) rfl rfl ?_)
    refine st (zb (v := .bool (decide ((min e.typ e.field) < 0))) rfl ?_)
    refine stc (V := .pointer (some ⟨b2, 4, none⟩)) rfl rfl (fun hb281 => ?_) ?_
    ·have hl282 := hb281
     have hl282 := of_decide_eq_false hl282
     exact ZW rfl ⟨rfl, rfl⟩
    refine stc (V := .int .i64 (e.typ)) rfl rfl (fun hb283 => ?_) ?_
    ·have hl284 := hb283
     have hl284 := of_decide_eq_false hl284
     exact zg (v := .int .i64 (e.typ)) Try.isAgg3 (show _ = (.pointer (some ⟨b2, 4, none⟩) : Value) from (if_pos hb283)) (zf (hS271.blk (i := 0) rfl) rfl) ⟨rfl, rfl⟩
    refine stc (V := .bool (decide (8 ≤ e.typ))) rfl rfl (fun hb285 => ?_) ?_
    ·have hl286 := hb285
     have hl286 := of_decide_eq_false hl286
     exact xv (k := .i64) (a := e.typ) (b := 8) (show _ = (.int .i64 (e.typ) : Value) from (if_pos hb285)) rfl ⟨rfl, rfl⟩
    refine st (zX (b := decide ((min e.typ e.field) < 0)) (b' := decide (8 ≤ e.typ)) rfl (fun hbp => (show _ = (.bool (decide (8 ≤ e.typ)) : Value) from (if_pos hbp))) ?_)
    refine st (zb (v := .bool ((decide ((min e.typ e.field) < 0)) || (decide (8 ≤ e.typ)))) rfl ?_)
    refine stc (V := .pointer (some ⟨b2, 6, none⟩)) rfl rfl (fun hb287 => ?_) ?_
    ·have hl288 := hb287
     try simp only [zx] at hl288
     exact ZZ rfl ⟨rfl, rfl⟩
    refine stc (V := .int .i64 (e.field)) rfl rfl (fun hb289 => ?_) ?_
    ·have hl290 := hb289
     try simp only [zx] at hl290
     exact zg (v := .int .i64 (e.field)) Try.isAgg3 (show _ = (.pointer (some ⟨b2, 6, none⟩) : Value) from (if_pos hb289)) (zf (hS271.blk (i := 0) rfl) rfl) ⟨rfl, rfl⟩
    refine stc (V := .bool (decide (8 ≤ e.field))) rfl rfl (fun hb291 => ?_) ?_
    ·have hl292 := hb291
     try simp only [zx] at hl292
     exact xv (k := .i64) (a := e.field) (b := 8) (show _ = (.int .i64 (e.field) : Value) from (if_pos hb291)) rfl ⟨rfl, rfl⟩
    refine st (zX (b := (decide ((min e.typ e.field) < 0)) || (decide (8 ≤ e.typ))) (b' := decide (8 ≤ e.field)) rfl (fun hbp => (show _ = (.bool (decide (8 ≤ e.field)) : Value) from (if_pos hbp))) ?_)
    refine st (zd (v := .bool (((decide ((min e.typ e.field) < 0)) || (decide (8 ≤ e.typ))) || (decide (8 ≤ e.field)))) rfl ?_)
    refine ze ?_
    cases hc293 : ((decide ((min e.typ e.field) < 0)) || (decide (8 ≤ e.typ))) || (decide (8 ≤ e.field))
    ·skip
     have hc293r := hc293
     try simp only [zx] at hc293
     refine zi rfl ?_
     refine zo ?_
     refine zc ?_
     refine za (by kernel_rfl) (fun _ => ?_)
     refine st (zd (v := .int .i64 (0)) rfl ?_)
     refine ze ?_
     refine zw ?_
     refine zL Try.results36 (show _ = (.int .i64 (0) : Value) from rfl) ?_
     have hS294 : Sep G W Rs w268 := hS271.sel 1 [] (Nat.le_add_left _ _) rfl rfl
     refine ⟨?_, hS294⟩
     unfold zI
     simp only [hc63r, hc273r, hc280r, hc293r, if_true, if_false, Bool.false_eq_true, ↓reduceIte]
    ·skip
     have hc293r := hc293
     try simp only [zx] at hc293
     refine zk rfl ?_
     refine zc ?_
     refine za (by kernel_rfl) (fun _ => ?_)
     refine st (zd (v := .int .i64 (8)) rfl ?_)
     refine ze ?_
     refine zw ?_
     refine zL Try.results36 (show _ = (.int .i64 (8) : Value) from rfl) ?_
     have hS295 : Sep G W Rs w268 := hS271.sel 1 [] (Nat.le_add_left _ _) rfl rfl
     refine ⟨?_, hS295⟩
     unfold zI
     simp only [hc63r, hc273r, hc280r, hc293r, if_true, if_false, Bool.false_eq_true, ↓reduceIte]
   ·skip
    have hc280r := hc280
    try simp only [zx] at hc280
    refine zk rfl ?_
    refine zc ?_
    refine za (by kernel_rfl) (fun _ => ?_)
    refine st (zd (v := .int .i64 (2)) rfl ?_)
    refine ze ?_
    refine zw ?_
    refine zL Try.results36 (show _ = (.int .i64 (2) : Value) from rfl) ?_
    have hS296 : Sep G W Rs w268 := hS271.sel 1 [] (Nat.le_add_left _ _) rfl rfl
    refine ⟨?_, hS296⟩
    unfold zI
    simp only [hc63r, hc273r, hc280r, if_true, if_false, Bool.false_eq_true, ↓reduceIte]
  ·skip
   have hc273r := hc273
   have hc273 := yx hc273
   refine zk rfl ?_
   refine zc ?_
   refine za (by kernel_rfl) (fun _ => ?_)
   refine st (zd (v := .int .i64 (9)) rfl ?_)
   refine ze ?_
   refine zw ?_
   refine zL Try.results36 (show _ = (.int .i64 (9) : Value) from rfl) ?_
   have hS297 : Sep G W Rs w268 := hS271.sel 1 [] (Nat.le_add_left _ _) rfl rfl
   refine ⟨?_, hS297⟩
   unfold zI
   simp only [hc63r, hc273r, if_true, if_false, Bool.false_eq_true, ↓reduceIte]
 ·skip
  have hc63r := hc63
  try simp only [zx] at hc63
  refine zk rfl ?_
  refine zc ?_
  refine za (by kernel_rfl) (fun _ => ?_)
  refine st (zd (v := .int .i64 (1)) rfl ?_)
  refine ze ?_
  refine zw ?_
  refine zL Try.results36 (show _ = (.int .i64 (1) : Value) from rfl) ?_
  have hS298 : Sep G W Rs w61 := hS62.sel 1 [] (Nat.le_add_left _ _) rfl rfl
  refine ⟨?_, hS298⟩
  unfold zI
  simp only [hc63r, if_true, if_false, Bool.false_eq_true, ↓reduceIte]

end Go.Proofs.Ytmiihhbeclhaoaa
end

section
/- Steps of the proofs of this seat: part A5. -/
set_option maxRecDepth 8000
set_option maxHeartbeats 4000000
namespace Go.Proofs.Ytmiihhbeclhaoaa
open Go.Proofs Go.RowKit

theorem Wl {α : Type} {a b : List α} {d : α} (hl : a.length = b.length) (h : ∀ i, i < a.length → a.getD i d = b.getD i d) : a = b := by
  refine List.ext_getElem hl (fun i h1 h2 => ?_)
  have := h i h1
  rwa [zm _ h1, zm _ h2] at this
theorem Vo {G : Nat → Prop} {W w : World} {Rs : List HP} {vl : Value} {l : List Int} (hl : RdS W G vl l) (hS0 : Sep G W Rs w) : Ret Try.prog 57 [vl] w (fun r w' => ∃ (v : Value), r = (v : Value) ∧ Sep G W ((RowE (α := Int) own 3 v l) :: Rs) w') := by
 have hls : _ * 8 ≤ _ := hl.small
 refine zp (args := [vl]) Try.func57 rfl rfl ?_
 refine zc ?_
 refine za (by kernel_rfl) (fun _ => ?_)
 refine st (zd (v := (.slice none 0 0)) rfl ?_)
 refine ze ?_
 refine zc ?_
 refine za (by kernel_rfl) (fun _ => ?_)
 refine st (zd (v := (.slice none 0 0)) rfl ?_)
 refine ze ?_
 refine zc ?_
 refine zc ?_
 refine za (by kernel_rfl) (fun _ => ?_)
 refine st (zd (v := .int .i64 (0)) rfl ?_)
 refine ze ?_
 refine zt ?_
 have hS1 : Sep G W ((RowE (α := Int) own 3 (.slice none 0 0) ([] : List Int)) :: Rs) w := hS0.rowNil own 3
 refine zP (fun mq σ wq => ∃ (k : Nat) (vo : Value) (ρ : Env), mq = l.length - k ∧ σ = zQ ρ [(0, vl), (4, .int .i64 ((k : Nat) : Int)), (3, vo)] ∧ (k ≤ l.length) ∧ Sep G W ((RowE (α := Int) own 3 vo (l.take k)) :: Rs) wq) ⟨0, (.slice none 0 0), _, rfl, zh ⟨rfl, rfl, rfl, trivial⟩, Nat.zero_le _, hS1⟩ ?_
 rintro m3 σ4 w2 ⟨k, vo, ρl1, rfl, rfl, hkk, hS5⟩
 have hr6 := hS5.row (i := 0) rfl
 have hr6s : _ * 8 ≤ _ := hr6.2
 refine zc ?_
 refine zc ?_
 refine za (by kernel_rfl) (fun _ => ?_)
 refine st (zb (v := .int .i64 ((k : Nat) : Int)) rfl ?_)
 refine st (zb (v := vl) rfl ?_)
 refine st (zJ (n := l.length) Try.underlying34 rfl hl.sl ?_)
 refine st (zH (k := .i64) (a := ((k : Nat) : Int)) (b := ((l.length : Nat) : Int)) rfl rfl ?_)
 refine ze ?_
 cases hc7 : decide (((k : Nat) : Int) < ((l.length : Nat) : Int))
 ·skip
  have hc7 := of_decide_eq_false hc7
  refine zi rfl ?_
  refine zO ?_
  refine zF ?_
  refine zc ?_
  refine za (by kernel_rfl) (fun _ => ?_)
  refine st (zb (v := vo) rfl ?_)
  refine st (zd (v := vo) rfl ?_)
  refine ze ?_
  refine zw ?_
  refine zL Try.results57 (show _ = (vo : Value) from rfl) ?_
  have hk9 : k = l.length := by omega
  rw [hk9, List.take_length] at hS5
  refine ⟨vo, rfl, hS5⟩
 ·skip
  have hc7 := of_decide_eq_true hc7
  refine zk rfl ?_
  refine zo ?_
  refine zc ?_
  refine zt ?_
  refine za (by kernel_rfl) (fun _ => ?_)
  refine st (zb (v := vo) rfl ?_)
  refine st (zb (v := vl) rfl ?_)
  refine st (zb (v := .int .i64 ((k : Nat) : Int)) rfl ?_)
  have hi8 : k < l.length := (by first | omega | (simp only [lens]; omega))
  refine st (zl (k := 1) (i := k) Try.underlying34 Try.sizeOf3 rfl hl.sl rfl hi8 ?_)
  have hi10 : k < l.length := (by first | omega | (simp only [lens]; omega))
  obtain ⟨hce9, hxe9⟩ := hl.int hi10
  rw [← zm 0 hi10] at hce9 hxe9
  have hcw11 := hS5.cells hce9 (hl.foot (ne_of_lt hi10))
  refine st (zg (v := .int .i64 ((l.getD k 0))) Try.isAgg3 rfl (hcw11.get (j := 0) rfl) ?_)
  refine st (zD (k := 1) (parts' := [(0, .int .i64 ((l.getD k 0)))]) (c := #[.int .i64 ((l.getD k 0))]) Try.underlying34 Try.sizeOf3 Try.zeroValue3 (by decide) rfl (by kernel_rfl) ?_)
  intro w14 b13 hn12
  have hS15 := hS5.new hn12
  have hbk19 := hS15.blk (i := 0) rfl
  have hS20 : Sep G W ((RowE (α := Int) own 3 vo (l.take k)) :: Rs) w14 := hS15.sel 2 [1] (Nat.le_add_left _ _) rfl rfl
  have hS21 : Sep G W ((RowE (α := Int) own 3 vo (l.take k)) :: Emp :: Rs) w14 := hS20.emp1
  refine st (zZ (src := own) (bytes := 8) (x1 := (l.getD k 0)) hS21 el34 rfl rfl hbk19 (fun _ _ _ => (show _ from ⟨rfl, hxe9⟩)) (by first | omega | (simp only [List.length_append, List.length_cons, List.length_nil, List.length_take, List.length_drop]; omega)) rfl ?_)
  intro v17 w16 hS18
  have hr22 := hS18.row (i := 0) rfl
  have hr22s : _ * 8 ≤ _ := hr22.2
  refine st (zd (v := v17) rfl ?_)
  refine ze ?_
  refine za (by kernel_rfl) (fun _ => ?_)
  refine st (zb (v := .int .i64 ((k : Nat) : Int)) rfl ?_)
  have hr23 : InR ((k + 1 : Nat) : Int) := by first | omega | (simp only [lens]; omega)
  refine st (zB (r := ((k + 1 : Nat) : Int)) (k := .i64) (a := ((k : Nat) : Int)) (b := 1) rfl rfl (by rw [show (((k : Nat) : Int) + 1 : Int) = ((k + 1 : Nat) : Int) by first | omega | (simp only [lens]; omega)]; exact zy hr23) ?_)
  refine st (zd (v := .int .i64 ((k + 1 : Nat) : Int)) rfl ?_)
  refine ze ?_
  have hL24 : (l.take (k + 1)) = (l.take k) ++ [(l.getD k 0)] := (takeL_getD (by omega))
  rw [← hL24] at hS18
  exact ⟨_, by omega, k + 1, v17, _, rfl, zh ⟨rfl, rfl, rfl, trivial⟩, by omega, hS18⟩

theorem VM {G : Nat → Prop} {W w : World} {Rs : List HP} {va : Value} {a : List Int} (ha : RdS W G va a) {vb : Value} {b : List Int} (hb : RdS W G vb b) (hS0 : Sep G W Rs w) : Ret Try.prog 69 [va, vb] w (fun r w' => r = (.bool (decide (a = b)) : Value) ∧ Sep G W Rs w') := by
 have has : _ * 8 ≤ _ := ha.small
 have hbs : _ * 8 ≤ _ := hb.small
 refine zp (args := [va, vb]) Try.func69 rfl rfl ?_
 refine zc ?_
 refine za (by kernel_rfl) (fun _ => ?_)
 refine st (zd (v := .bool false) rfl ?_)
 refine ze ?_
 refine zc ?_
 refine zc ?_
 refine za (by kernel_rfl) (fun _ => ?_)
 refine st (zb (v := va) rfl ?_)
 refine st (zJ (n := a.length) Try.underlying34 rfl ha.sl ?_)
 refine st (zb (v := vb) rfl ?_)
 refine st (zJ (n := b.length) Try.underlying34 rfl hb.sl ?_)
 refine st (yH (k := .i64) (a := ((a.length : Nat) : Int)) (b := ((b.length : Nat) : Int)) rfl rfl ?_)
 refine ze ?_
 cases hc1 : !decide (((a.length : Nat) : Int) = ((b.length : Nat) : Int))
 ·skip
  have hc1 := yh hc1
  refine zi rfl ?_
  refine zo ?_
  refine zc ?_
  refine zc ?_
  refine za (by kernel_rfl) (fun _ => ?_)
  refine st (zd (v := .int .i64 (0)) rfl ?_)
  refine ze ?_
  refine zt ?_
  refine zP (fun mq σ wq => ∃ (k : Nat) (ρ : Env), mq = a.length - k ∧ σ = zQ ρ [(0, va), (1, vb), (5, .int .i64 ((k : Nat) : Int))] ∧ (k ≤ a.length) ∧ (∀ i, i < k → a.getD i 0 = b.getD i 0) ∧ Sep G W Rs wq) ⟨0, _, rfl, zh ⟨rfl, rfl, rfl, trivial⟩, Nat.zero_le _, (fun i h => absurd h (Nat.not_lt_zero i)), hS0⟩ ?_
  rintro m3 σ4 w2 ⟨k, ρl1, rfl, rfl, hkk, hm, hS5⟩
  refine zc ?_
  refine zc ?_
  refine za (by kernel_rfl) (fun _ => ?_)
  refine st (zb (v := .int .i64 ((k : Nat) : Int)) rfl ?_)
  refine st (zb (v := va) rfl ?_)
  refine st (zJ (n := a.length) Try.underlying34 rfl ha.sl ?_)
  refine st (zH (k := .i64) (a := ((k : Nat) : Int)) (b := ((a.length : Nat) : Int)) rfl rfl ?_)
  refine ze ?_
  cases hc6 : decide (((k : Nat) : Int) < ((a.length : Nat) : Int))
  ·skip
   have hc6 := of_decide_eq_false hc6
   refine zi rfl ?_
   refine zO ?_
   refine zF ?_
   refine zc ?_
   refine za (by kernel_rfl) (fun _ => ?_)
   refine st (zd (v := .bool true) rfl ?_)
   refine ze ?_
   refine zw ?_
   refine zL Try.results69 (show _ = (.bool true : Value) from rfl) ?_
   refine ⟨?_, hS5⟩
   rw [decide_eq_true (Wl (by omega) (fun i hi => hm i (by omega)))]
  ·skip
   have hc6 := of_decide_eq_true hc6
   refine zk rfl ?_
   refine zo ?_
   refine zc ?_
   refine zt ?_
   refine zc ?_
   refine zM (WF [fun vals wq => Sep G W Rs wq]) (AF [Vl 0 (va), Vl 1 (.int .i64 ((k : Nat) : Int)), Vl 2 (.pointer (some ⟨sb va, so va + k * 1, none⟩)), Vl 3 (.int .i64 ((a.getD k 0))), Vl 4 (vb), Vl 5 (.int .i64 ((k : Nat) : Int)), Vl 6 (.pointer (some ⟨sb vb, so vb + k * 1, none⟩)), Vl 7 (.int .i64 ((b.getD k 0))), Vl 8 (.bool (!decide ((a.getD k 0) = (b.getD k 0))))]) [[], [], [0, 1], [0, 1, 2], [], [], [4, 5], [4, 5, 6], [0, 1, 2, 3, 4, 5, 6, 7]] [] [(0, 0), (0, 0), (0, 0), (0, 0), (0, 0), (0, 0), (0, 0), (0, 0), (0, 0)] (by kernel_rfl) (by kernel_rfl) (by kernel_rfl) rfl (by kernel_rfl) (by kernel_rfl) (fun _ h1 h2 h3 h4 _ => hS5.same h1 h2 h3 h4) ?_ (yc ⟨dA, dA, dA, dA, dA, dA, dA, dA, dA, trivial⟩) ⟨?_, ?_, ?_, ?_, ?_, ?_, ?_, ?_, ?_, trivial⟩ ?_
   ·intro k vals vals' w hv h
    match k, h with
    | 0, h => exact h
    | _ + 1, _ => trivial
   ·intro k82 vals w83 h86 h87 hW85 hA84
    refine obl rfl ?_
    exact zb (v := va) rfl (fun vals' hv _ => ⟨rfl, hv⟩)
   ·intro k88 vals w89 h92 h93 hW91 hA90
    refine obl rfl ?_
    exact zb (v := .int .i64 ((k : Nat) : Int)) rfl (fun vals' hv _ => ⟨rfl, hv⟩)
   ·intro k94 vals w95 h98 h99 hW97 hA96
    obtain rfl : k94 = 0 := Nat.le_antisymm h99 h98
    have hS100 : Sep _ _ _ _ := hW97
    have e101 := hA96 0 (by decide)
    have e102 := hA96 1 (by decide)
    refine obl rfl ?_
    have hi103 : k < a.length := (by first | omega | (simp only [lens]; omega))
    exact zl (k := 1) (i := k) Try.underlying34 Try.sizeOf3 e101 ha.sl e102 hi103 (fun vals' hv _ => ⟨rfl, hv⟩)
   ·intro k104 vals w105 h108 h109 hW107 hA106
    obtain rfl : k104 = 0 := Nat.le_antisymm h109 h108
    have hS110 : Sep _ _ _ _ := hW107
    have e111 := hA106 2 (by decide)
    refine obl rfl ?_
    have hi113 : k < a.length := (by first | omega | (simp only [lens]; omega))
    obtain ⟨hce112, hxe112⟩ := ha.int hi113
    rw [← zm 0 hi113] at hce112 hxe112
    have hcw114 := hS110.cells hce112 (ha.foot (ne_of_lt hi113))
    exact zg (v := .int .i64 ((a.getD k 0))) Try.isAgg3 e111 (hcw114.get (j := 0) rfl) (fun vals' hv _ => ⟨rfl, hv⟩)
   ·intro k115 vals w116 h119 h120 hW118 hA117
    refine obl rfl ?_
    exact zb (v := vb) rfl (fun vals' hv _ => ⟨rfl, hv⟩)
   ·intro k121 vals w122 h125 h126 hW124 hA123
    refine obl rfl ?_
    exact zb (v := .int .i64 ((k : Nat) : Int)) rfl (fun vals' hv _ => ⟨rfl, hv⟩)
   ·intro k127 vals w128 h131 h132 hW130 hA129
    obtain rfl : k127 = 0 := Nat.le_antisymm h132 h131
    have hS133 : Sep _ _ _ _ := hW130
    have e134 := hA129 4 (by decide)
    have e135 := hA129 5 (by decide)
    refine obl rfl ?_
    have hi136 : k < b.length := (by first | omega | (simp only [lens]; omega))
    exact zl (k := 1) (i := k) Try.underlying34 Try.sizeOf3 e134 hb.sl e135 hi136 (fun vals' hv _ => ⟨rfl, hv⟩)
   ·intro k137 vals w138 h141 h142 hW140 hA139
    obtain rfl : k137 = 0 := Nat.le_antisymm h142 h141
    have hS143 : Sep _ _ _ _ := hW140
    have e144 := hA139 6 (by decide)
    refine obl rfl ?_
    have hi146 : k < b.length := (by first | omega | (simp only [lens]; omega))
    obtain ⟨hce145, hxe145⟩ := hb.int hi146
    rw [← zm 0 hi146] at hce145 hxe145
    have hcw147 := hS143.cells hce145 (hb.foot (ne_of_lt hi146))
    exact zg (v := .int .i64 ((b.getD k 0))) Try.isAgg3 e144 (hcw147.get (j := 0) rfl) (fun vals' hv _ => ⟨rfl, hv⟩)
   ·intro k148 vals w149 h152 h153 hW151 hA150
    obtain rfl : k148 = 0 := Nat.le_antisymm h153 h152
    have hS154 : Sep _ _ _ _ := hW151
    have e155 := hA150 3 (by decide)
    have e156 := hA150 7 (by decide)
    refine obl rfl ?_
    exact yH (k := .i64) (a := (a.getD k 0)) (b := (b.getD k 0)) e155 e156 (fun vals' hv _ => ⟨rfl, hv⟩)
   intro vals w157 hW158 hA159
   have hS160 : Sep _ _ _ _ := hW158
   have e161 := hA159 8 (by decide)
   refine yb (kv := [(0, va), (1, vb), (5, .int .i64 ((k : Nat) : Int)), (11, .int .i64 ((k : Nat) : Int)), (12, va), (13, .int .i64 ((a.length : Nat) : Int)), (14, .bool true), (25, .bool (!decide ((a.getD k 0) = (b.getD k 0))))]) ⟨rfl, rfl, rfl, rfl, rfl, rfl, rfl, (by exact e161), trivial⟩ (fun ρw157 => ?_)
   refine ze ?_
   cases hc162 : !decide ((a.getD k 0) = (b.getD k 0))
   ·skip
    have hc162 := yh hc162
    refine zi rfl ?_
    refine zo ?_
    refine za (by kernel_rfl) (fun _ => ?_)
    refine st (zb (v := .int .i64 ((k : Nat) : Int)) rfl ?_)
    have hr163 : InR ((k + 1 : Nat) : Int) := by first | omega | (simp only [lens]; omega)
    refine st (zB (r := ((k + 1 : Nat) : Int)) (k := .i64) (a := ((k : Nat) : Int)) (b := 1) rfl rfl (by rw [show (((k : Nat) : Int) + 1 : Int) = ((k + 1 : Nat) : Int) by first | omega | (simp only [lens]; omega)]; exact zy hr163) ?_)
    refine st (zd (v := .int .i64 ((k + 1 : Nat) : Int)) rfl ?_)
    refine ze ?_
    exact ⟨_, by omega, k + 1, _, rfl, zh ⟨rfl, rfl, rfl, trivial⟩, by omega, (yE hm (by omega)), hS160⟩
   ·skip
    have hc162 := yx hc162
    refine zk rfl ?_
    refine zc ?_
    refine za (by kernel_rfl) (fun _ => ?_)
    refine st (zd (v := .bool false) rfl ?_)
    refine ze ?_
    refine zw ?_
    refine zL Try.results69 (show _ = (.bool false : Value) from rfl) ?_
    refine ⟨?_, hS160⟩
    rw [decide_eq_false (fun e => by subst e; omega)]
 ·skip
  have hc1 := yx hc1
  refine zk rfl ?_
  refine zc ?_
  refine za (by kernel_rfl) (fun _ => ?_)
  refine st (zd (v := .bool false) rfl ?_)
  refine ze ?_
  refine zw ?_
  refine zL Try.results69 (show _ = (.bool false : Value) from rfl) ?_
  refine ⟨?_, hS0⟩
  rw [decide_eq_false (fun e => by subst e; omega)]

theorem Wy {x y : Operand} {a0 a1 b0 b1 : Int} : ∀ w, (do eqGuard .eql 33 x y (.agg #[.int .i64 a0, .int .i64 a1]) (.agg #[.int .i64 b0, .int .i64 b1]); binOp .eql 33 (.agg #[.int .i64 a0, .int .i64 a1]) (.agg #[.int .i64 b0, .int .i64 b1]) : Sem Value).run Try.prog w = .ok (.bool (decide (a0 = b0 ∧ a1 = b1))) w := by
  intro w
  have h : ∀ w, (Op.equal 33 (.agg #[.int .i64 a0, .int .i64 a1]) (.agg #[.int .i64 b0, .int .i64 b1])).run Try.prog w = .ok (decide (a0 = b0 ∧ a1 = b1)) w := by
    intro w
    unfold Op.equal Op.maxDepth; rw [KZ]; simp [go_sem]; (try (by_cases h1 : a0 = b0 <;> by_cases h2 : a1 = b1 <;> simp [h1, h2]))
  simp [eqGuard, binOp, h, go_sem]
theorem VF {d : Option Tmp} {ty : TypeId} {pos : String} {af : Array Edge} {g : Option (Nat × Bool)} {σ : Env} {w : World} {K : Value → World → Prop} {x : Operand} {b o : Nat} (hx : ev σ x = .pointer (some ⟨b, o, none⟩)) (h : K (.pointer (some ⟨b, o + 8, none⟩)) w) : opV Try.prog ⟨d, .fieldAddr 36 x 7, ty, pos, af, g⟩ σ w K := zR Try.underlying36 rfl rfl (fun w => ⟨0, Try.sizeOf3 w⟩) hx h
theorem Wp {G : Nat → Prop} {W w : World} {Rs : List HP} {a : Ev} {da0 : Value} (hda0 : RdS W G da0 a.deps) (oa : a.Ok) {b : Ev} {db0 : Value} (hdb0 : RdS W G db0 b.deps) (ob : b.Ok) (hS0 : Sep G W Rs w) : Ret Try.prog 51 [.agg (a.cells da0).toArray, .agg (b.cells db0).toArray] w (fun r w' => r = (.bool (decide (a = b)) : Value) ∧ Sep G W Rs w') := by
 have hda0s : _ * 8 ≤ _ := hda0.small
 have hdb0s : _ * 8 ≤ _ := hdb0.small
 refine zp (args := [.agg (a.cells da0).toArray, .agg (b.cells db0).toArray]) Try.func51 rfl rfl ?_
 refine zc ?_
 refine za (by kernel_rfl) (fun _ => ?_)
 refine st (yg (v := .agg (a.cells da0).toArray) rfl ?_)
 intro w3 b2 hn1
 have hS4 := hS0.new hn1
 refine st (yg (v := .agg (b.cells db0).toArray) rfl ?_)
 intro w7 b6 hn5
 have hS8 := hS4.new hn5
 refine st (zd (v := .bool false) rfl ?_)
 refine ze ?_
 refine zc ?_
 refine zW (by kernel_rfl) ?_
 refine st (zS rfl ?_)
 refine st (zr (k := 2) (cs := [.int .i64 (a.origin), .int .i64 (a.seq)]) Try.isAgg33 Try.sizeOf33 rfl rfl (CellsAt.sub (CellsAt.all (hS8.blk (i := 1) rfl)) 0 (cs2 := [.int .i64 (a.origin), .int .i64 (a.seq)]) rfl) ?_)
 refine st (zS rfl ?_)
 refine st (zr (k := 2) (cs := [.int .i64 (b.origin), .int .i64 (b.seq)]) Try.isAgg33 Try.sizeOf33 rfl rfl (CellsAt.sub (CellsAt.all (hS8.blk (i := 0) rfl)) 0 (cs2 := [.int .i64 (b.origin), .int .i64 (b.seq)]) rfl) ?_)
 refine st (ZU (e := decide (a.origin = b.origin ∧ a.seq = b.seq)) (xs := #[.int .i64 (a.origin), .int .i64 (a.seq)]) (ys := #[.int .i64 (b.origin), .int .i64 (b.seq)]) Wy rfl rfl ?_)
 refine st (zb (v := .bool (decide (a.origin = b.origin ∧ a.seq = b.seq))) rfl ?_)
 refine stc (V := .pointer (some ⟨b2, 2, none⟩)) rfl rfl (fun hb9 => ?_) ?_
 ·have hl10 := hb9
  have hl10 := of_decide_eq_true hl10
  exact yO rfl ⟨rfl, rfl⟩
 refine stc (V := .int .i64 (a.lam)) rfl rfl (fun hb11 => ?_) ?_
 ·have hl12 := hb11
  have hl12 := of_decide_eq_true hl12
  exact zg (v := .int .i64 (a.lam)) Try.isAgg3 (show _ = (.pointer (some ⟨b2, 2, none⟩) : Value) from (if_pos hb11)) (zf (hS8.blk (i := 1) rfl) rfl) ⟨rfl, rfl⟩
 refine stc (V := .pointer (some ⟨b6, 2, none⟩)) rfl rfl (fun hb13 => ?_) ?_
 ·have hl14 := hb13
  have hl14 := of_decide_eq_true hl14
  exact yO rfl ⟨rfl, rfl⟩
 refine stc (V := .int .i64 (b.lam)) rfl rfl (fun hb15 => ?_) ?_
 ·have hl16 := hb15
  have hl16 := of_decide_eq_true hl16
  exact zg (v := .int .i64 (b.lam)) Try.isAgg3 (show _ = (.pointer (some ⟨b6, 2, none⟩) : Value) from (if_pos hb15)) (zf (hS8.blk (i := 0) rfl) rfl) ⟨rfl, rfl⟩
 refine stc (V := .bool (decide (a.lam = b.lam))) rfl rfl (fun hb17 => ?_) ?_
 ·have hl18 := hb17
  have hl18 := of_decide_eq_true hl18
  exact yq (k := .i64) (a := a.lam) (b := b.lam) (show _ = (.int .i64 (a.lam) : Value) from (if_pos hb17)) (show _ = (.int .i64 (b.lam) : Value) from (if_pos hb17)) ⟨rfl, rfl⟩
 refine st (yp (b := decide (a.origin = b.origin ∧ a.seq = b.seq)) (b' := decide (a.lam = b.lam)) rfl (fun hbp => (show _ = (.bool (decide (a.lam = b.lam)) : Value) from (if_pos hbp))) ?_)
 refine st (zb (v := .bool ((decide (a.origin = b.origin ∧ a.seq = b.seq)) && (decide (a.lam = b.lam)))) rfl ?_)
 refine stc (V := .pointer (some ⟨b2, 3, none⟩)) rfl rfl (fun hb19 => ?_) ?_
 ·have hl20 := hb19
  try simp only [zx] at hl20
  exact yB rfl ⟨rfl, rfl⟩
 refine stc (V := da0) rfl rfl (fun hb21 => ?_) ?_
 ·have hl22 := hb21
  try simp only [zx] at hl22
  exact zg (v := da0) Try.isAgg34 (show _ = (.pointer (some ⟨b2, 3, none⟩) : Value) from (if_pos hb21)) (zf (hS8.blk (i := 1) rfl) rfl) ⟨rfl, rfl⟩
 refine stc (V := .pointer (some ⟨b6, 3, none⟩)) rfl rfl (fun hb23 => ?_) ?_
 ·have hl24 := hb23
  try simp only [zx] at hl24
  exact yB rfl ⟨rfl, rfl⟩
 refine stc (V := db0) rfl rfl (fun hb25 => ?_) ?_
 ·have hl26 := hb25
  try simp only [zx] at hl26
  exact zg (v := db0) Try.isAgg34 (show _ = (.pointer (some ⟨b6, 3, none⟩) : Value) from (if_pos hb25)) (zf (hS8.blk (i := 0) rfl) rfl) ⟨rfl, rfl⟩
 refine stcw (V := .bool (decide (a.deps = b.deps))) (fun _ wq => Sep G W ((Blk b6 (b.cells db0).toArray 36) :: (Blk b2 (a.cells da0).toArray 36) :: Rs) wq) hS8 rfl rfl (fun hb27 => ?_) (fun w31 hS32 => ?_)
 ·have hl28 := hb27
  try simp only [zx] at hl28
  refine (zj (f := 69) (vals := [da0, db0]) (cap := []) rfl (xc ⟨(show _ = (da0 : Value) from (if_pos hb27)), (show _ = (db0 : Value) from (if_pos hb27)), trivial⟩) Try.call69 (VM (a := a.deps) (va := da0) (b := b.deps) (vb := db0) hda0 hdb0 hS8) ?_)
  rintro _ w29 ⟨rfl, hS30⟩
  exact ⟨rfl, hS30⟩
 refine st (yp (b := (decide (a.origin = b.origin ∧ a.seq = b.seq)) && (decide (a.lam = b.lam))) (b' := decide (a.deps = b.deps)) rfl (fun hbp => (show _ = (.bool (decide (a.deps = b.deps)) : Value) from (if_pos hbp))) ?_)
 refine st (zb (v := .bool (((decide (a.origin = b.origin ∧ a.seq = b.seq)) && (decide (a.lam = b.lam))) && (decide (a.deps = b.deps)))) rfl ?_)
 refine stc (V := .pointer (some ⟨b2, 4, none⟩)) rfl rfl (fun hb33 => ?_) ?_
 ·have hl34 := hb33
  try simp only [zx] at hl34
  exact ZW rfl ⟨rfl, rfl⟩
 refine stc (V := .int .i64 (a.typ)) rfl rfl (fun hb35 => ?_) ?_
 ·have hl36 := hb35
  try simp only [zx] at hl36
  exact zg (v := .int .i64 (a.typ)) Try.isAgg3 (show _ = (.pointer (some ⟨b2, 4, none⟩) : Value) from (if_pos hb35)) (zf (hS32.blk (i := 1) rfl) rfl) ⟨rfl, rfl⟩
 refine stc (V := .pointer (some ⟨b6, 4, none⟩)) rfl rfl (fun hb37 => ?_) ?_
 ·have hl38 := hb37
  try simp only [zx] at hl38
  exact ZW rfl ⟨rfl, rfl⟩
 refine stc (V := .int .i64 (b.typ)) rfl rfl (fun hb39 => ?_) ?_
 ·have hl40 := hb39
  try simp only [zx] at hl40
  exact zg (v := .int .i64 (b.typ)) Try.isAgg3 (show _ = (.pointer (some ⟨b6, 4, none⟩) : Value) from (if_pos hb39)) (zf (hS32.blk (i := 0) rfl) rfl) ⟨rfl, rfl⟩
 refine stc (V := .bool (decide (a.typ = b.typ))) rfl rfl (fun hb41 => ?_) ?_
 ·have hl42 := hb41
  try simp only [zx] at hl42
  exact yq (k := .i64) (a := a.typ) (b := b.typ) (show _ = (.int .i64 (a.typ) : Value) from (if_pos hb41)) (show _ = (.int .i64 (b.typ) : Value) from (if_pos hb41)) ⟨rfl, rfl⟩
 refine st (yp (b := ((decide (a.origin = b.origin ∧ a.seq = b.seq)) && (decide (a.lam = b.lam))) && (decide (a.deps = b.deps))) (b' := decide (a.typ = b.typ)) rfl (fun hbp => (show _ = (.bool (decide (a.typ = b.typ)) : Value) from (if_pos hbp))) ?_)
 refine st (zb (v := .bool ((((decide (a.origin = b.origin ∧ a.seq = b.seq)) && (decide (a.lam = b.lam))) && (decide (a.deps = b.deps))) && (decide (a.typ = b.typ)))) rfl ?_)
 refine stc (V := .pointer (some ⟨b2, 5, none⟩)) rfl rfl (fun hb43 => ?_) ?_
 ·have hl44 := hb43
  try simp only [zx] at hl44
  exact XO rfl ⟨rfl, rfl⟩
 refine stc (V := .int .i64 (a.agg)) rfl rfl (fun hb45 => ?_) ?_
 ·have hl46 := hb45
  try simp only [zx] at hl46
  exact zg (v := .int .i64 (a.agg)) Try.isAgg3 (show _ = (.pointer (some ⟨b2, 5, none⟩) : Value) from (if_pos hb45)) (zf (hS32.blk (i := 1) rfl) rfl) ⟨rfl, rfl⟩
 refine stc (V := .pointer (some ⟨b6, 5, none⟩)) rfl rfl (fun hb47 => ?_) ?_
 ·have hl48 := hb47
  try simp only [zx] at hl48
  exact XO rfl ⟨rfl, rfl⟩
 refine stc (V := .int .i64 (b.agg)) rfl rfl (fun hb49 => ?_) ?_
 ·have hl50 := hb49
  try simp only [zx] at hl50
  exact zg (v := .int .i64 (b.agg)) Try.isAgg3 (show _ = (.pointer (some ⟨b6, 5, none⟩) : Value) from (if_pos hb49)) (zf (hS32.blk (i := 0) rfl) rfl) ⟨rfl, rfl⟩
 refine stc (V := .bool (decide (a.agg = b.agg))) rfl rfl (fun hb51 => ?_) ?_
 ·have hl52 := hb51
  try simp only [zx] at hl52
  exact yq (k := .i64) (a := a.agg) (b := b.agg) (show _ = (.int .i64 (a.agg) : Value) from (if_pos hb51)) (show _ = (.int .i64 (b.agg) : Value) from (if_pos hb51)) ⟨rfl, rfl⟩
 refine st (yp (b := (((decide (a.origin = b.origin ∧ a.seq = b.seq)) && (decide (a.lam = b.lam))) && (decide (a.deps = b.deps))) && (decide (a.typ = b.typ))) (b' := decide (a.agg = b.agg)) rfl (fun hbp => (show _ = (.bool (decide (a.agg = b.agg)) : Value) from (if_pos hbp))) ?_)
 refine st (zb (v := .bool (((((decide (a.origin = b.origin ∧ a.seq = b.seq)) && (decide (a.lam = b.lam))) && (decide (a.deps = b.deps))) && (decide (a.typ = b.typ))) && (decide (a.agg = b.agg)))) rfl ?_)
 refine stc (V := .pointer (some ⟨b2, 6, none⟩)) rfl rfl (fun hb53 => ?_) ?_
 ·have hl54 := hb53
  try simp only [zx] at hl54
  exact ZZ rfl ⟨rfl, rfl⟩
 refine stc (V := .int .i64 (a.field)) rfl rfl (fun hb55 => ?_) ?_
 ·have hl56 := hb55
  try simp only [zx] at hl56
  exact zg (v := .int .i64 (a.field)) Try.isAgg3 (show _ = (.pointer (some ⟨b2, 6, none⟩) : Value) from (if_pos hb55)) (zf (hS32.blk (i := 1) rfl) rfl) ⟨rfl, rfl⟩
 refine stc (V := .pointer (some ⟨b6, 6, none⟩)) rfl rfl (fun hb57 => ?_) ?_
 ·have hl58 := hb57
  try simp only [zx] at hl58
  exact ZZ rfl ⟨rfl, rfl⟩
 refine stc (V := .int .i64 (b.field)) rfl rfl (fun hb59 => ?_) ?_
 ·have hl60 := hb59
  try simp only [zx] at hl60
  exact zg (v := .int .i64 (b.field)) Try.isAgg3 (show _ = (.pointer (some ⟨b6, 6, none⟩) : Value) from (if_pos hb59)) (zf (hS32.blk (i := 0) rfl) rfl) ⟨rfl, rfl⟩
 refine stc (V := .bool (decide (a.field = b.field))) rfl rfl (fun hb61 => ?_) ?_
 ·have hl62 := hb61
  try simp only [zx] at hl62
  exact yq (k := .i64) (a := a.field) (b := b.field) (show _ = (.int .i64 (a.field) : Value) from (if_pos hb61)) (show _ = (.int .i64 (b.field) : Value) from (if_pos hb61)) ⟨rfl, rfl⟩
 refine st (yp (b := ((((decide (a.origin = b.origin ∧ a.seq = b.seq)) && (decide (a.lam = b.lam))) && (decide (a.deps = b.deps))) && (decide (a.typ = b.typ))) && (decide (a.agg = b.agg))) (b' := decide (a.field = b.field)) rfl (fun hbp => (show _ = (.bool (decide (a.field = b.field)) : Value) from (if_pos hbp))) ?_)
 refine st (zb (v := .bool ((((((decide (a.origin = b.origin ∧ a.seq = b.seq)) && (decide (a.lam = b.lam))) && (decide (a.deps = b.deps))) && (decide (a.typ = b.typ))) && (decide (a.agg = b.agg))) && (decide (a.field = b.field)))) rfl ?_)
 refine stc (V := .pointer (some ⟨b2, 7, none⟩)) rfl rfl (fun hb63 => ?_) ?_
 ·have hl64 := hb63
  try simp only [zx] at hl64
  exact Yf rfl ⟨rfl, rfl⟩
 refine stc (V := .int .i64 (a.op)) rfl rfl (fun hb65 => ?_) ?_
 ·have hl66 := hb65
  try simp only [zx] at hl66
  exact zg (v := .int .i64 (a.op)) Try.isAgg3 (show _ = (.pointer (some ⟨b2, 7, none⟩) : Value) from (if_pos hb65)) (zf (hS32.blk (i := 1) rfl) rfl) ⟨rfl, rfl⟩
 refine stc (V := .pointer (some ⟨b6, 7, none⟩)) rfl rfl (fun hb67 => ?_) ?_
 ·have hl68 := hb67
  try simp only [zx] at hl68
  exact Yf rfl ⟨rfl, rfl⟩
 refine stc (V := .int .i64 (b.op)) rfl rfl (fun hb69 => ?_) ?_
 ·have hl70 := hb69
  try simp only [zx] at hl70
  exact zg (v := .int .i64 (b.op)) Try.isAgg3 (show _ = (.pointer (some ⟨b6, 7, none⟩) : Value) from (if_pos hb69)) (zf (hS32.blk (i := 0) rfl) rfl) ⟨rfl, rfl⟩
 refine stc (V := .bool (decide (a.op = b.op))) rfl rfl (fun hb71 => ?_) ?_
 ·have hl72 := hb71
  try simp only [zx] at hl72
  exact yq (k := .i64) (a := a.op) (b := b.op) (show _ = (.int .i64 (a.op) : Value) from (if_pos hb71)) (show _ = (.int .i64 (b.op) : Value) from (if_pos hb71)) ⟨rfl, rfl⟩
 refine st (yp (b := (((((decide (a.origin = b.origin ∧ a.seq = b.seq)) && (decide (a.lam = b.lam))) && (decide (a.deps = b.deps))) && (decide (a.typ = b.typ))) && (decide (a.agg = b.agg))) && (decide (a.field = b.field))) (b' := decide (a.op = b.op)) rfl (fun hbp => (show _ = (.bool (decide (a.op = b.op)) : Value) from (if_pos hbp))) ?_)
 refine st (zb (v := .bool (((((((decide (a.origin = b.origin ∧ a.seq = b.seq)) && (decide (a.lam = b.lam))) && (decide (a.deps = b.deps))) && (decide (a.typ = b.typ))) && (decide (a.agg = b.agg))) && (decide (a.field = b.field))) && (decide (a.op = b.op)))) rfl ?_)
 refine stc (V := .pointer (some ⟨b2, 8, none⟩)) rfl rfl (fun hb73 => ?_) ?_
 ·have hl74 := hb73
  try simp only [zx] at hl74
  exact VF rfl ⟨rfl, rfl⟩
 refine stc (V := .int .i64 (a.arg)) rfl rfl (fun hb75 => ?_) ?_
 ·have hl76 := hb75
  try simp only [zx] at hl76
  exact zg (v := .int .i64 (a.arg)) Try.isAgg3 (show _ = (.pointer (some ⟨b2, 8, none⟩) : Value) from (if_pos hb75)) (zf (hS32.blk (i := 1) rfl) rfl) ⟨rfl, rfl⟩
 refine stc (V := .pointer (some ⟨b6, 8, none⟩)) rfl rfl (fun hb77 => ?_) ?_
 ·have hl78 := hb77
  try simp only [zx] at hl78
  exact VF rfl ⟨rfl, rfl⟩
 refine stc (V := .int .i64 (b.arg)) rfl rfl (fun hb79 => ?_) ?_
 ·have hl80 := hb79
  try simp only [zx] at hl80
  exact zg (v := .int .i64 (b.arg)) Try.isAgg3 (show _ = (.pointer (some ⟨b6, 8, none⟩) : Value) from (if_pos hb79)) (zf (hS32.blk (i := 0) rfl) rfl) ⟨rfl, rfl⟩
 refine stc (V := .bool (decide (a.arg = b.arg))) rfl rfl (fun hb81 => ?_) ?_
 ·have hl82 := hb81
  try simp only [zx] at hl82
  exact yq (k := .i64) (a := a.arg) (b := b.arg) (show _ = (.int .i64 (a.arg) : Value) from (if_pos hb81)) (show _ = (.int .i64 (b.arg) : Value) from (if_pos hb81)) ⟨rfl, rfl⟩
 refine st (yp (b := ((((((decide (a.origin = b.origin ∧ a.seq = b.seq)) && (decide (a.lam = b.lam))) && (decide (a.deps = b.deps))) && (decide (a.typ = b.typ))) && (decide (a.agg = b.agg))) && (decide (a.field = b.field))) && (decide (a.op = b.op))) (b' := decide (a.arg = b.arg)) rfl (fun hbp => (show _ = (.bool (decide (a.arg = b.arg)) : Value) from (if_pos hbp))) ?_)
 refine st (zb (v := .bool ((((((((decide (a.origin = b.origin ∧ a.seq = b.seq)) && (decide (a.lam = b.lam))) && (decide (a.deps = b.deps))) && (decide (a.typ = b.typ))) && (decide (a.agg = b.agg))) && (decide (a.field = b.field))) && (decide (a.op = b.op))) && (decide (a.arg = b.arg)))) rfl ?_)
 refine stc (V := .pointer (some ⟨b2, 9, none⟩)) rfl rfl (fun hb83 => ?_) ?_
 ·have hl84 := hb83
  try simp only [zx] at hl84
  exact XV rfl ⟨rfl, rfl⟩
 refine stc (V := .int .i64 (a.key)) rfl rfl (fun hb85 => ?_) ?_
 ·have hl86 := hb85
  try simp only [zx] at hl86
  exact zg (v := .int .i64 (a.key)) Try.isAgg3 (show _ = (.pointer (some ⟨b2, 9, none⟩) : Value) from (if_pos hb85)) (zf (hS32.blk (i := 1) rfl) rfl) ⟨rfl, rfl⟩
 refine stc (V := .pointer (some ⟨b6, 9, none⟩)) rfl rfl (fun hb87 => ?_) ?_
 ·have hl88 := hb87
  try simp only [zx] at hl88
  exact XV rfl ⟨rfl, rfl⟩
 refine stc (V := .int .i64 (b.key)) rfl rfl (fun hb89 => ?_) ?_
 ·have hl90 := hb89
  try simp only [zx] at hl90
  exact zg (v := .int .i64 (b.key)) Try.isAgg3 (show _ = (.pointer (some ⟨b6, 9, none⟩) : Value) from (if_pos hb89)) (zf (hS32.blk (i := 0) rfl) rfl) ⟨rfl, rfl⟩
 refine stc (V := .bool (decide (a.key = b.key))) rfl rfl (fun hb91 => ?_) ?_
 ·have hl92 := hb91
  try simp only [zx] at hl92
  exact yq (k := .i64) (a := a.key) (b := b.key) (show _ = (.int .i64 (a.key) : Value) from (if_pos hb91)) (show _ = (.int .i64 (b.key) : Value) from (if_pos hb91)) ⟨rfl, rfl⟩
 refine st (yp (b := (((((((decide (a.origin = b.origin ∧ a.seq = b.seq)) && (decide (a.lam = b.lam))) && (decide (a.deps = b.deps))) && (decide (a.typ = b.typ))) && (decide (a.agg = b.agg))) && (decide (a.field = b.field))) && (decide (a.op = b.op))) && (decide (a.arg = b.arg))) (b' := decide (a.key = b.key)) rfl (fun hbp => (show _ = (.bool (decide (a.key = b.key)) : Value) from (if_pos hbp))) ?_)
 refine st (zd (v := .bool (((((((((decide (a.origin = b.origin ∧ a.seq = b.seq)) && (decide (a.lam = b.lam))) && (decide (a.deps = b.deps))) && (decide (a.typ = b.typ))) && (decide (a.agg = b.agg))) && (decide (a.field = b.field))) && (decide (a.op = b.op))) && (decide (a.arg = b.arg))) && (decide (a.key = b.key)))) rfl ?_)
 refine ze ?_
 refine zw ?_
 refine zL Try.results51 (show _ = (.bool (((((((((decide (a.origin = b.origin ∧ a.seq = b.seq)) && (decide (a.lam = b.lam))) && (decide (a.deps = b.deps))) && (decide (a.typ = b.typ))) && (decide (a.agg = b.agg))) && (decide (a.field = b.field))) && (decide (a.op = b.op))) && (decide (a.arg = b.arg))) && (decide (a.key = b.key))) : Value) from rfl) ?_
 have hS93 : Sep G W Rs w31 := hS32.sel 2 [] (Nat.le_add_left _ _) rfl rfl
 refine ⟨?_, hS93⟩
 congr 1
 rw [Bool.eq_iff_iff]
 simp only [Bool.and_eq_true, decide_eq_true_eq, Ev.eq_iff]
 constructor
 · rintro ⟨⟨⟨⟨⟨⟨⟨⟨h1, h3⟩, h4⟩, h5⟩, h6⟩, h7⟩, h8⟩, h9⟩, h10⟩; exact ⟨h1.1, h1.2, h3, h4, h5, h6, h7, h8, h9, h10⟩
 · rintro ⟨h1, h2, h3, h4, h5, h6, h7, h8, h9, h10⟩; exact ⟨⟨⟨⟨⟨⟨⟨⟨⟨h1, h2⟩, h3⟩, h4⟩, h5⟩, h6⟩, h7⟩, h8⟩, h9⟩, h10⟩

theorem yJ {G : Nat → Prop} {W w : World} {Rs : List HP} {e : Ev} {de0 : Value} (hde0 : RdS W G de0 e.deps) (oe : e.Ok) (hS0 : Sep G W Rs w) : Ret Try.prog 23 [.agg (e.cells de0).toArray] w (fun r w' => ∃ (v : Value), r = (.agg (e.cells v).toArray : Value) ∧ Sep G W ((RowE (α := Int) own 3 v e.deps) :: Rs) w') := by
 have hde0s : _ * 8 ≤ _ := hde0.small
 refine zp (args := [.agg (e.cells de0).toArray]) Try.func23 rfl rfl ?_
 refine zc ?_
 refine za (by kernel_rfl) (fun _ => ?_)
 refine st (yg (v := .agg (e.cells de0).toArray) rfl ?_)
 intro w3 b2 hn1
 have hS4 := hS0.new hn1
 refine st (ye Try.zeroValue36 ?_)
 intro w7 b6 hn5
 have hS8 := hS4.new hn5
 refine ze ?_
 refine zc ?_
 refine za (by kernel_rfl) (fun _ => ?_)
 refine st (yB rfl ?_)
 refine st (zg (v := de0) Try.isAgg34 rfl (zf (hS8.blk (i := 1) rfl) rfl) ?_)
 refine st (zj (f := 57) (vals := [de0]) (cap := []) rfl rfl Try.call57 (Vo (l := e.deps) (vl := de0) hde0 hS8) ?_)
 rintro v9 w10 ⟨_, rfl, hS11⟩
 have hr12 := hS11.row (i := 0) rfl
 have hr12s : _ * 8 ≤ _ := hr12.2
 refine st (yB rfl ?_)
 refine stn (yd (v := v9) (c := [.int .i64 (e.origin), .int .i64 (e.seq), .int .i64 (e.lam), de0, .int .i64 (e.typ), .int .i64 (e.agg), .int .i64 (e.field), .int .i64 (e.op), .int .i64 (e.arg), .int .i64 (e.key)]) (c' := [.int .i64 (e.origin), .int .i64 (e.seq), .int .i64 (e.lam), v9, .int .i64 (e.typ), .int .i64 (e.agg), .int .i64 (e.field), .int .i64 (e.op), .int .i64 (e.arg), .int .i64 (e.key)]) Try.sizeOf34 rfl rfl (hS11.blk (i := 2) rfl) hr12.1.one rfl rfl ?_)
 intro w13 hp14
 have ok15 : Ev.Ok e := ⟨(show InR (e.origin) from oe.origin), (show InR (e.seq) from oe.seq), (show InR (e.lam) from oe.lam), (show InR (e.typ) from oe.typ), (show InR (e.agg) from oe.agg), (show InR (e.field) from oe.field), (show InR (e.op) from oe.op), (show InR (e.arg) from oe.arg), (show InR (e.key) from oe.key)⟩
 have hS16 := hS11.pt2 hp14
 refine ze ?_
 refine zc ?_
 refine za (by kernel_rfl) (fun _ => ?_)
 refine st (zr (k := 10) Try.isAgg36 Try.sizeOf36 rfl rfl (CellsAt.all (hS16.blk (i := 2) rfl)) ?_)
 refine stn (zY (v := .agg (e.cells v9).toArray) (c' := (e.cells v9).toArray) Try.sizeOf36 rfl rfl (hS16.blk (i := 1) rfl) (yU ⟨rfl, rfl, rfl, hr12.1.one, rfl, rfl, rfl, rfl, rfl, rfl, trivial⟩) (Nat.le_of_ble_eq_true rfl) rfl ?_)
 intro w17 hp18
 have hS19 := hS16.pt1 hp18
 refine ze ?_
 refine zw ?_
 refine KC (b := b6) Try.results23 Try.isAgg36 Try.sizeOf36 rfl rfl (CellsAt.all (hS19.blk (i := 1) rfl)) ?_
 have hS20 : Sep G W ((RowE (α := Int) own 3 v9 e.deps) :: Rs) w17 := hS19.sel 3 [0] (Nat.le_add_left _ _) rfl rfl
 refine ⟨v9, rfl, hS20⟩

end Go.Proofs.Ytmiihhbeclhaoaa
end

section
/- Steps of the proofs of this seat: part A6. -/
set_option maxRecDepth 8000
set_option maxHeartbeats 4000000
namespace Go.Proofs.Ytmiihhbeclhaoaa
open Go.Proofs Go.RowKit

def ltE (a b : Ev) : Bool := if (!decide (a.lam = b.lam)) = true then decide (a.lam < b.lam) else if (!decide (a.origin = b.origin)) = true then decide (a.origin < b.origin) else decide (a.seq < b.seq)
def Few (l : List Ev) : Prop := l.length ≤ 60 ∧ ∀ i, i < l.length → (l.getD i default).deps.length ≤ 80
theorem XS {G : Nat → Prop} {W w : World} {Rs : List HP} {a : Ev} {da0 : Value} (hda0 : RdS W G da0 a.deps) (oa : a.Ok) {b : Ev} {db0 : Value} (hdb0 : RdS W G db0 b.deps) (ob : b.Ok) (hS0 : Sep G W Rs w) : Ret Try.prog 56 [.agg (a.cells da0).toArray, .agg (b.cells db0).toArray] w (fun r w' => r = (.bool ((ltE a b)) : Value) ∧ Sep G W Rs w') := by
 have hda0s : _ * 8 ≤ _ := hda0.small
 have hdb0s : _ * 8 ≤ _ := hdb0.small
 refine zp (args := [.agg (a.cells da0).toArray, .agg (b.cells db0).toArray]) Try.func56 rfl rfl ?_
 refine zc ?_
 refine za (by kernel_rfl) (fun _ => ?_)
 refine st (yg (v := .agg (a.cells da0).toArray) rfl ?_)
 intro w3 b2 hn1
 have hS4 := hS0.new hn1
 refine st (yg (v := .agg (b.cells db0).toArray) rfl ?_)
 intro w7 b6 hn5
 have hS8 := hS4.new hn5
 refine st (zd (v := .bool false) rfl ?_)
 refine ze ?_
 refine zc ?_
 refine zc ?_
 refine za (by kernel_rfl) (fun _ => ?_)
 refine st (yO rfl ?_)
 refine st (zg (v := .int .i64 (a.lam)) Try.isAgg3 rfl (zf (hS8.blk (i := 1) rfl) rfl) ?_)
 refine st (yO rfl ?_)
 refine st (zg (v := .int .i64 (b.lam)) Try.isAgg3 rfl (zf (hS8.blk (i := 0) rfl) rfl) ?_)
 refine st (yH (k := .i64) (a := a.lam) (b := b.lam) rfl rfl ?_)
 refine ze ?_
 cases hc9 : !decide (a.lam = b.lam)
 ·skip
  have hc9r := hc9
  have hc9 := yh hc9
  refine zi rfl ?_
  refine zo ?_
  refine zc ?_
  refine zc ?_
  refine za (by kernel_rfl) (fun _ => ?_)
  refine st (zS rfl ?_)
  refine st (yM rfl ?_)
  refine st (zg (v := .int .i64 (a.origin)) Try.isAgg3 rfl (zf (hS8.blk (i := 1) rfl) rfl) ?_)
  refine st (zS rfl ?_)
  refine st (yM rfl ?_)
  refine st (zg (v := .int .i64 (b.origin)) Try.isAgg3 rfl (zf (hS8.blk (i := 0) rfl) rfl) ?_)
  refine st (yH (k := .i64) (a := a.origin) (b := b.origin) rfl rfl ?_)
  refine ze ?_
  cases hc10 : !decide (a.origin = b.origin)
  ·skip
   have hc10r := hc10
   have hc10 := yh hc10
   refine zi rfl ?_
   refine zo ?_
   refine zc ?_
   refine za (by kernel_rfl) (fun _ => ?_)
   refine st (zS rfl ?_)
   refine st (xg rfl ?_)
   refine st (zg (v := .int .i64 (a.seq)) Try.isAgg3 rfl (zf (hS8.blk (i := 1) rfl) rfl) ?_)
   refine st (zS rfl ?_)
   refine st (xg rfl ?_)
   refine st (zg (v := .int .i64 (b.seq)) Try.isAgg3 rfl (zf (hS8.blk (i := 0) rfl) rfl) ?_)
   refine st (zH (k := .i64) (a := a.seq) (b := b.seq) rfl rfl ?_)
   refine st (zd (v := .bool (decide (a.seq < b.seq))) rfl ?_)
   refine ze ?_
   refine zw ?_
   refine zL Try.results56 (show _ = (.bool (decide (a.seq < b.seq)) : Value) from rfl) ?_
   have hS11 : Sep G W Rs w7 := hS8.sel 2 [] (Nat.le_add_left _ _) rfl rfl
   refine ⟨?_, hS11⟩
   unfold ltE
   simp only [hc9r, hc10r, if_true, if_false, Bool.false_eq_true, ↓reduceIte]
  ·skip
   have hc10r := hc10
   have hc10 := yx hc10
   refine zk rfl ?_
   refine zc ?_
   refine za (by kernel_rfl) (fun _ => ?_)
   refine st (zS rfl ?_)
   refine st (yM rfl ?_)
   refine st (zg (v := .int .i64 (a.origin)) Try.isAgg3 rfl (zf (hS8.blk (i := 1) rfl) rfl) ?_)
   refine st (zS rfl ?_)
   refine st (yM rfl ?_)
   refine st (zg (v := .int .i64 (b.origin)) Try.isAgg3 rfl (zf (hS8.blk (i := 0) rfl) rfl) ?_)
   refine st (zH (k := .i64) (a := a.origin) (b := b.origin) rfl rfl ?_)
   refine st (zd (v := .bool (decide (a.origin < b.origin))) rfl ?_)
   refine ze ?_
   refine zw ?_
   refine zL Try.results56 (show _ = (.bool (decide (a.origin < b.origin)) : Value) from rfl) ?_
   have hS12 : Sep G W Rs w7 := hS8.sel 2 [] (Nat.le_add_left _ _) rfl rfl
   refine ⟨?_, hS12⟩
   unfold ltE
   simp only [hc9r, hc10r, if_true, if_false, Bool.false_eq_true, ↓reduceIte]
 ·skip
  have hc9r := hc9
  have hc9 := yx hc9
  refine zk rfl ?_
  refine zc ?_
  refine za (by kernel_rfl) (fun _ => ?_)
  refine st (yO rfl ?_)
  refine st (zg (v := .int .i64 (a.lam)) Try.isAgg3 rfl (zf (hS8.blk (i := 1) rfl) rfl) ?_)
  refine st (yO rfl ?_)
  refine st (zg (v := .int .i64 (b.lam)) Try.isAgg3 rfl (zf (hS8.blk (i := 0) rfl) rfl) ?_)
  refine st (zH (k := .i64) (a := a.lam) (b := b.lam) rfl rfl ?_)
  refine st (zd (v := .bool (decide (a.lam < b.lam))) rfl ?_)
  refine ze ?_
  refine zw ?_
  refine zL Try.results56 (show _ = (.bool (decide (a.lam < b.lam)) : Value) from rfl) ?_
  have hS13 : Sep G W Rs w7 := hS8.sel 2 [] (Nat.le_add_left _ _) rfl rfl
  refine ⟨?_, hS13⟩
  unfold ltE
  simp only [hc9r, if_true, if_false, Bool.false_eq_true, ↓reduceIte]

theorem Vf {G : Nat → Prop} {W w : World} {Rs : List HP} {vl : Value} {l : List Ev} (hl : RdS W G vl l) (hS0 : Sep G W Rs w) : Ret Try.prog 8 [vl] w (fun r w' => ∃ (b : Bool), r = (.bool b : Value) ∧ (b = false → Few l) ∧ Sep G W Rs w') := by
 have hls : _ * 96 ≤ _ := hl.small
 refine zp (args := [vl]) Try.func8 rfl rfl ?_
 refine zc ?_
 refine za (by kernel_rfl) (fun _ => ?_)
 refine st (zd (v := .bool false) rfl ?_)
 refine ze ?_
 refine zc ?_
 refine zc ?_
 refine za (by kernel_rfl) (fun _ => ?_)
 refine st (zb (v := vl) rfl ?_)
 refine st (zJ (n := l.length) Try.underlying22 rfl hl.sl ?_)
 refine st (xC (k := .i64) (a := ((l.length : Nat) : Int)) (b := 60) rfl rfl ?_)
 refine ze ?_
 cases hc1 : decide (60 < ((l.length : Nat) : Int))
 ·skip
  have hc1 := of_decide_eq_false hc1
  refine zi rfl ?_
  refine zo ?_
  refine zc ?_
  refine zc ?_
  refine za (by kernel_rfl) (fun _ => ?_)
  refine st (zd (v := .int .i64 (0)) rfl ?_)
  refine ze ?_
  refine zt ?_
  refine zP (fun mq σ wq => ∃ (k : Nat) (ρ : Env), mq = l.length - k ∧ σ = zQ ρ [(0, vl), (3, .int .i64 ((k : Nat) : Int))] ∧ (k ≤ l.length) ∧ (∀ i, i < k → (l.getD i default).deps.length ≤ 80) ∧ Sep G W Rs wq) ⟨0, _, rfl, zh ⟨rfl, rfl, trivial⟩, Nat.zero_le _, (fun i h => absurd h (Nat.not_lt_zero i)), hS0⟩ ?_
  rintro m3 σ4 w2 ⟨k, ρl1, rfl, rfl, hkk, hm, hS5⟩
  refine zc ?_
  refine zc ?_
  refine za (by kernel_rfl) (fun _ => ?_)
  refine st (zb (v := .int .i64 ((k : Nat) : Int)) rfl ?_)
  refine st (zb (v := vl) rfl ?_)
  refine st (zJ (n := l.length) Try.underlying22 rfl hl.sl ?_)
  refine st (zH (k := .i64) (a := ((k : Nat) : Int)) (b := ((l.length : Nat) : Int)) rfl rfl ?_)
  refine ze ?_
  cases hc6 : decide (((k : Nat) : Int) < ((l.length : Nat) : Int))
  ·skip
   have hc6 := of_decide_eq_false hc6
   refine zi rfl ?_
   refine zO ?_
   refine zF ?_
   refine zc ?_
   refine za (by kernel_rfl) (fun _ => ?_)
   refine st (zd (v := .bool false) rfl ?_)
   refine ze ?_
   refine zw ?_
   refine zL Try.results8 (show _ = (.bool false : Value) from rfl) ?_
   refine ⟨false, rfl, ?_, hS5⟩
   intro h9
   exact ⟨by omega, fun i hi => hm i (by omega)⟩
  ·skip
   have hc6 := of_decide_eq_true hc6
   refine zk rfl ?_
   refine zo ?_
   refine zc ?_
   refine zt ?_
   refine zc ?_
   refine za (by kernel_rfl) (fun _ => ?_)
   refine st (zb (v := vl) rfl ?_)
   refine st (zb (v := .int .i64 ((k : Nat) : Int)) rfl ?_)
   have hi7 : k < l.length := (by first | omega | (simp only [lens]; omega))
   refine st (zl (k := 10) (i := k) Try.underlying22 Try.sizeOf36 rfl hl.sl rfl hi7 ?_)
   refine st (yB rfl ?_)
   have hi9 : k < l.length := (by first | omega | (simp only [lens]; omega))
   obtain ⟨hce8, hde8_0, hoke8⟩ := hl.ev hi9
   rw [← zm default hi9] at hce8 hde8_0 hoke8
   have hsm10 : ((l.getD k default).deps).length * 8 ≤ 140737488355328 := hde8_0.small
   have hcw11 := hS5.cells hce8 (hl.foot (ne_of_lt hi9))
   refine st (zg (v := (zT W (sb vl) (so vl + k * 10 + 3))) Try.isAgg34 rfl (hcw11.get (j := 3) rfl) ?_)
   refine st (zJ (n := ((l.getD k default).deps).length) Try.underlying34 rfl hde8_0.sl ?_)
   refine st (xC (k := .i64) (a := ((((l.getD k default).deps).length : Nat) : Int)) (b := 80) rfl rfl ?_)
   refine ze ?_
   cases hc12 : decide (80 < ((((l.getD k default).deps).length : Nat) : Int))
   ·skip
    have hc12 := of_decide_eq_false hc12
    refine zi rfl ?_
    refine zo ?_
    refine za (by kernel_rfl) (fun _ => ?_)
    refine st (zb (v := .int .i64 ((k : Nat) : Int)) rfl ?_)
    have hr13 : InR ((k + 1 : Nat) : Int) := by first | omega | (simp only [lens]; omega)
    refine st (zB (r := ((k + 1 : Nat) : Int)) (k := .i64) (a := ((k : Nat) : Int)) (b := 1) rfl rfl (by rw [show (((k : Nat) : Int) + 1 : Int) = ((k + 1 : Nat) : Int) by first | omega | (simp only [lens]; omega)]; exact zy hr13) ?_)
    refine st (zd (v := .int .i64 ((k + 1 : Nat) : Int)) rfl ?_)
    refine ze ?_
    exact ⟨_, by omega, k + 1, _, rfl, zh ⟨rfl, rfl, trivial⟩, by omega, (yE hm (by omega)), hS5⟩
   ·skip
    have hc12 := of_decide_eq_true hc12
    refine zk rfl ?_
    refine zc ?_
    refine za (by kernel_rfl) (fun _ => ?_)
    refine st (zd (v := .bool true) rfl ?_)
    refine ze ?_
    refine zw ?_
    refine zL Try.results8 (show _ = (.bool true : Value) from rfl) ?_
    refine ⟨true, rfl, ?_, hS5⟩
    intro h9
    cases h9
 ·skip
  have hc1 := of_decide_eq_true hc1
  refine zk rfl ?_
  refine zc ?_
  refine za (by kernel_rfl) (fun _ => ?_)
  refine st (zd (v := .bool true) rfl ?_)
  refine ze ?_
  refine zw ?_
  refine zL Try.results8 (show _ = (.bool true : Value) from rfl) ?_
  refine ⟨true, rfl, ?_, hS0⟩
  intro h9
  cases h9

end Go.Proofs.Ytmiihhbeclhaoaa
end

section
/- Memory that is written over: of a set of blocks it is known that numbers are numbers still, and that what is no number is as it was (but for the cells of X). -/
namespace Go.Proofs.Ytmiihhbeclhaoaa
open Go.RowKit
def MildV (a b : Value) : Prop := b = a ∨ ∃ m n : Int, a = .int .i64 m ∧ b = .int .i64 n ∧ InR n
def ML (w0 : World) (f0 : Nat → Prop) (X : Nat → Nat → Prop) : HP :=
  ⟨fun w f => ∀ b, f0 b → f b ∧ Soft w b ∧ ∀ o v, w0.cell? ⟨b, o, none⟩ = some v → ∃ v', w.cell? ⟨b, o, none⟩ = some v' ∧ (X b o ∨ MildV v v'), by
    intro w w' f f' h hf b hb
    obtain ⟨h1, h2, h3⟩ := h b hb
    have hlt : b < w.heap.size := by obtain ⟨c, T, hc⟩ := h2; exact yK hc
    have e := hf b h1 hlt
    refine ⟨e.2, h2.keep e.1, fun o v hv => ?_⟩
    rw [xW e.1]; exact h3 o v hv⟩
def noX : Nat → Nat → Prop := fun _ _ => False
theorem IsSl.num {v : Value} {n : Nat} (h : IsSl v n) (m : Int) : v ≠ .int .i64 m := by obtain ⟨a, cap, rfl, _⟩ := h; intro e; cases e
section
variable {α : Type} [Rep α] {G : Nat → Prop} {W w w0 : World} {As : List HP} {T : TypeId} {v : Value} {l : List α} {f0 : Nat → Prop} {X : Nat → Nat → Prop}
theorem Sep.toML (h : Sep G W (RowE own T v l :: As) w) : ∃ f0, RdS w f0 v l ∧ Sep G W (ML w f0 noX :: As) w := by
  obtain ⟨f, hA, hl, hT⟩ := h.take (i := 0) rfl
  exact ⟨fun b => f b ∧ Soft w b, RowE.soft hA, hT w _ f (Chg.refl _ _) (fun b hb => ⟨hb.1, hb.2, fun o v hv => ⟨v, hv, .inr (.inl rfl)⟩⟩) (fun _ h => .inl h)⟩
theorem Sep.mlHead {i b o j : Nat} {cs : List Value} {u : Value} (h : Sep G W As w) (hi : As[i]? = some (ML w0 f0 X)) (hb : f0 b) (hc : CellsAt w0 b o cs) (hj : cs[j]? = some u) (hX : ¬ X b (o + j)) (hn : ∀ m, u ≠ .int .i64 m) : w.cell? ⟨b, o + j, none⟩ = some u := by
  obtain ⟨f, hA, _⟩ := h.get hi
  obtain ⟨_, _, h3⟩ := hA b hb
  obtain ⟨v', h4, h5⟩ := h3 _ _ (hc.get hj)
  rcases h5 with h5 | h5 | ⟨m, n, h5, _⟩
  · exact absurd h5 hX
  · rw [h4, h5]
  · exact absurd h5 (hn m)
end
theorem XY {w : World} {b o : Nat} {c : Array Value} {T : TypeId} (h : w.heap[b]? = some (.cells c T)) : w.cell? ⟨b, o, none⟩ = c[o]? := by
  unfold World.cell?; simp [h]
theorem Uu {c : Array Value} {o : Nat} {us : List Value} (h : o + us.length ≤ c.size) (p : Nat) : (Yl c o us)[p]? = if o ≤ p ∧ p < o + us.length then us[p - o]? else c[p]? := by
  unfold Yl
  simp only [List.getElem?_toArray]
  have hl : (c.toList.take o).length = o := by simp; omega
  by_cases h1 : p < o
  · rw [if_neg (by omega), List.append_assoc, List.getElem?_append_left (by rw [hl]; exact h1), List.getElem?_take, if_pos h1]; simp
  · by_cases h2 : p < o + us.length
    · rw [if_pos ⟨by omega, h2⟩, List.getElem?_append_left (by rw [List.length_append, hl]; exact h2), List.getElem?_append_right (by rw [hl]; omega), hl]
    · rw [if_neg (by omega), List.getElem?_append_right (by rw [List.length_append, hl]; omega), List.length_append, hl, List.getElem?_drop, show o + us.length + (p - (o + us.length)) = p by omega]; simp
section
variable {P : Program} {d : Option Tmp} {ty : TypeId} {pos : String} {af : Array Edge} {gd : Option (Nat × Bool)} {σ : Env} {w w0 : World} {K : Value → World → Prop} {G : Nat → Prop} {W : World} {As : List HP} {f0 : Nat → Prop} {X X' : Nat → Nat → Prop}
theorem ZB {t : TypeId} {b o : Nat} {x y : Operand} {u : Value} {us cs : List Value} (h : Sep G W (ML w0 f0 X :: As) w) (hS : ∀ w, (sizeOf t).run P w = .ok us.length w) (hx : ev σ x = .pointer (some ⟨b, o, none⟩)) (hb : f0 b)
    (hy : ev σ y = u) (hu : u.cells.toList = us) (h1 : ∀ u ∈ us, u.oneCell' = true) (hc : CellsAt w0 b o cs) (hl : cs.length = us.length) (hpos : 0 < us.length)
    (hm : ∀ (j : Nat) v v', cs[j]? = some v → us[j]? = some v' → X' b (o + j) ∨ MildV v v') (hXX : ∀ b o, X b o → X' b o) (hK : ∀ w', Sep G W (ML w0 f0 X' :: As) w' → K undef w') : opV P ⟨d, .store t x y, ty, pos, af, gd⟩ σ w K := by
  obtain ⟨f, hA, hfl⟩ := h.get (i := 0) rfl
  obtain ⟨hfb, ⟨c, T, hbk⟩, h3⟩ := hA b hb
  have hfit : o + us.length ≤ c.size := by
    obtain ⟨v', h4, _⟩ := h3 _ _ (hc (us.length - 1) (by omega))
    rw [XY hbk] at h4
    obtain ⟨h5, _⟩ := Array.getElem?_eq_some_iff.1 h4
    omega
  refine zY (v := u) (c := c) (T := T) (by intro w; rw [hS, ← hu]; simp) hx hy hbk (by rw [hu]; exact h1) (by rw [hu]; exact hfit) rfl (fun w1 hp => hK w1 ?_)
  refine h.upd (i := 0) (B := ML w0 f0 X') rfl (fun f hA hl9 => ?_)
  refine ⟨hp.chg.weak (fun i _ hi => by subst hi; exact (hA _ hb).1), f, fun b' hb' => ?_, fun _ hb => .inl hb⟩
  obtain ⟨h5, h6, h7⟩ := hA b' hb'
  by_cases e : b' = b
  · subst e
    refine ⟨h5, ⟨_, _, hp.at_⟩, fun p v hv => ?_⟩
    obtain ⟨v', h8, h9⟩ := h7 p v hv
    rw [XY hbk] at h8
    rw [XY hp.at_, hu, Uu hfit]
    by_cases hr : o ≤ p ∧ p < o + us.length
    · rw [if_pos hr]
      have hlt : p - o < us.length := by omega
      refine ⟨us[p - o], List.getElem?_eq_getElem hlt, ?_⟩
      have h10 := hc (p - o) (by omega)
      rw [show o + (p - o) = p by omega, hv] at h10
      have h11 := hm (p - o) v us[p - o] (by rw [List.getElem?_eq_getElem (by omega)]; exact h10.symm) (List.getElem?_eq_getElem hlt)
      rw [show o + (p - o) = p by omega] at h11
      exact h11
    · rw [if_neg hr]
      exact ⟨v', h8, h9.imp (hXX _ _) id⟩
  · have e2 := hp.chg.block b' (by obtain ⟨c, T, hc⟩ := h6; exact yK hc) e
    refine ⟨h5, h6.keep e2, fun p v hv => ?_⟩
    obtain ⟨v', h8, h9⟩ := h7 p v hv
    exact ⟨v', by rw [xW e2]; exact h8, h9.imp (hXX _ _) id⟩
end
def MildAll : List Value → List Value → Prop
  | a :: xs, b :: ys => MildV a b ∧ MildAll xs ys
  | _, _ => True
theorem MildAll.at_ : ∀ {xs ys : List Value}, MildAll xs ys → ∀ (j : Nat) v v', xs[j]? = some v → ys[j]? = some v' → MildV v v'
  | _ :: _, _ :: _, h, 0, _, _, h1, h2 => by
    simp only [List.getElem?_cons_zero, Option.some.injEq] at h1 h2
    subst h1; subst h2; exact h.1
  | _ :: _, _ :: _, h, j + 1, _, _, h1, h2 => MildAll.at_ h.2 j _ _ (by simpa using h1) (by simpa using h2)
  | [], _, _, j, _, _, h1, _ => by simp at h1
  | _ :: _, [], _, j, _, _, _, h2 => by simp at h2
theorem MildV.num {m n : Int} (h : InR n) : MildV (.int .i64 m) (.int .i64 n) := .inr ⟨m, n, rfl, rfl, h⟩
end Go.Proofs.Ytmiihhbeclhaoaa
end

section
/- Maps with structs as keys: what they hold, value by value. -/
namespace Go.Proofs.Ytmiihhbeclhaoaa
open Go.RowKit Go.MapKept

structure KLaw (P : Program) (kt : TypeId) {κ : Type} [DecidableEq κ] (enc : κ → Value) : Prop where
  inj : ∀ {a b : κ}, enc a = enc b → a = b
  desc : ∃ d, P.underlying kt = some d ∧ ∀ a b, Instr.sameNow d (enc a) (enc b) = none
  check : ∀ (w : World) (e : Bool) (k : κ), (Instr.checkKey e 10000 kt (enc k)).run P w = .ok () w
  eql : ∀ (w : World) (a b : κ), (Op.equal kt (enc a) (enc b)).run P w = .ok (decide (a = b)) w
  stays : ∀ k, Instr.sameBits 10000 (enc k) (enc k) = true

def yz {κ β : Type} [DecidableEq κ] (L : List (κ × β)) (k : κ) : Option β := (L.find? fun p => decide (p.1 = k)).map (·.2)
def UP {κ β : Type} [DecidableEq κ] (L : List (κ × β)) (k : κ) (x : β) : List (κ × β) := match L.findIdx? fun p => decide (p.1 = k) with
  | some j => L.set j (k, x)
  | none => L ++ [(k, x)]
section
variable {P : Program} {kt : TypeId} {κ : Type} [DecidableEq κ] {enc : κ → Value}
theorem KLaw.ask (K : KLaw P kt enc) (k : κ) (w : World) : ∀ (es : List MapEntry) (i : Nat), (∀ e ∈ es, ∃ q, e.key = enc q) →
    ((Instr.findAsking kt (enc k) es i).run P w = .ok none w ∧ ∀ e ∈ es, e.key ≠ enc k) ∨ ∃ j e, (Instr.findAsking kt (enc k) es i).run P w = .ok (some (i + j, e.val)) w ∧ es[j]? = some e ∧ e.key = enc k
  | [], i, _ => .inl ⟨rfl, by simp⟩
  | e :: es, i, h => by
    obtain ⟨q, hq⟩ := h e (.head _)
    by_cases hk : k = q
    · subst hk
      refine .inr ⟨0, e, ?_, rfl, hq⟩
      simp [Instr.findAsking, hq, K.eql, go_sem]
    · rcases KLaw.ask K k w es (i + 1) (fun x hx => h x (.tail _ hx)) with ⟨h1, h2⟩ | ⟨j, e', h1, h2, h3⟩
      · refine .inl ⟨?_, fun x hx => ?_⟩
        · simp [Instr.findAsking, hq, K.eql, hk, h1, go_sem]
        · rcases List.mem_cons.1 hx with rfl | hx
          · rw [hq]; exact fun e => hk (K.inj e).symm
          · exact h2 x hx
      · refine .inr ⟨j + 1, e', ?_, by simpa using h2, h3⟩
        have e9 : i + 1 + j = i + (j + 1) := by omega
        rw [e9] at h1
        simp [Instr.findAsking, hq, K.eql, hk, h1, go_sem]
theorem KLaw.find (K : KLaw P kt enc) (k : κ) (w : World) (es : List MapEntry) (h : ∀ e ∈ es, ∃ q, e.key = enc q) :
    ((Instr.findKey kt (enc k) es).run P w = .ok none w ∧ ∀ e ∈ es, e.key ≠ enc k) ∨ ∃ j e, (Instr.findKey kt (enc k) es).run P w = .ok (some (j, e.val)) w ∧ es[j]? = some e ∧ e.key = enc k := by
  obtain ⟨d, hd, hs⟩ := K.desc
  match es, h with
  | [], h => exact .inl ⟨by simp [Instr.findKey, run_underlying hd, Instr.findNow, go_sem], by simp⟩
  | e :: es, h =>
    obtain ⟨q, hq⟩ := h e (.head _)
    have hn : Instr.findNow d (enc k) (e :: es) 0 = none := by simp [Instr.findNow, hq, hs]
    have hr : ∀ r, (Instr.findAsking kt (enc k) (e :: es) 0).run P w = .ok r w → (Instr.findKey kt (enc k) (e :: es)).run P w = .ok r w := by
      intro r hr
      simp [Instr.findKey, run_underlying hd, hn, go_sem]
      exact hr
    rcases K.ask k w (e :: es) 0 h with ⟨h1, h2⟩ | ⟨j, e', h1, h2, h3⟩
    · exact .inl ⟨hr _ h1, h2⟩
    · exact .inr ⟨j, e', hr _ (by rw [h1, Nat.zero_add]), h2, h3⟩
theorem KLaw.keeps (K : KLaw P kt enc) (k : κ) (w : World) : (Instr.keyThatStays (enc k) (enc k)).run P w = .ok (enc k) w := by
  simp [Instr.keyThatStays, K.stays]

def EntsV (enc : κ → Value) (es : List MapEntry) (L : List (κ × Value)) : Prop := es.map (fun e => (e.key, e.val)) = L.map (fun p => (enc p.1, p.2))
theorem EntsV.len {es : List MapEntry} {L : List (κ × Value)} (h : EntsV enc es L) : es.length = L.length := by have := congrArg List.length h; simpa using this
theorem EntsV.at_ {es : List MapEntry} {L : List (κ × Value)} (h : EntsV enc es L) {j : Nat} {e : MapEntry} (he : es[j]? = some e) : ∃ p, L[j]? = some p ∧ e.key = enc p.1 ∧ e.val = p.2 := by
  have h1 : (es.map (fun e => (e.key, e.val)))[j]? = (L.map (fun p => (enc p.1, p.2)))[j]? := by rw [show es.map _ = L.map _ from h]
  rw [List.getElem?_map, List.getElem?_map, he] at h1
  cases hp : L[j]? with
  | none => rw [hp] at h1; cases h1
  | some p => rw [hp] at h1; simp only [Option.map_some, Option.some.injEq, Prod.mk.injEq] at h1; exact ⟨p, rfl, h1.1, h1.2⟩
theorem EntsV.keys {es : List MapEntry} {L : List (κ × Value)} (h : EntsV enc es L) : ∀ e ∈ es, ∃ q, e.key = enc q := by
  intro e he
  obtain ⟨j, hj, rfl⟩ := List.getElem_of_mem he
  obtain ⟨p, _, h1, _⟩ := h.at_ (List.getElem?_eq_getElem hj)
  exact ⟨p.1, h1⟩
theorem EntsV.nodup {es : List MapEntry} {L : List (κ × Value)} (h : EntsV enc es L) (hp : (es.map (·.key)).Nodup) : (L.map (·.1)).Nodup := by
  have h1 : (es.map (·.key)) = (L.map (·.1)).map enc := by
    have := congrArg (List.map Prod.fst) h
    simpa [Function.comp_def] using this
  have h2 : ((L.map (·.1)).map enc).Nodup := by rw [← h1]; exact hp
  exact (List.pairwise_map.1 h2).imp (fun hne e => hne (by rw [e]))
theorem EntsV.none {es : List MapEntry} {L : List (κ × Value)} (h : EntsV enc es L) {k : κ} (hk : ∀ e ∈ es, e.key ≠ enc k) : (L.findIdx? fun p => decide (p.1 = k)) = none ∧ yz L k = none := by
  have key : ∀ p ∈ L, ¬ p.1 = k := by
    intro p hp e
    obtain ⟨j, hj, rfl⟩ := List.getElem_of_mem hp
    have hje : j < es.length := by rw [h.len]; exact hj
    obtain ⟨q, h1, h2, _⟩ := h.at_ (List.getElem?_eq_getElem hje)
    rw [List.getElem?_eq_getElem hj] at h1
    cases h1
    exact hk _ (List.getElem_mem hje) (by rw [h2, e])
  refine ⟨by rw [List.findIdx?_eq_none_iff]; intro p hp; simpa using key p hp, ?_⟩
  unfold yz
  rw [Option.map_eq_none_iff, List.find?_eq_none]
  intro p hp
  simpa using key p hp
theorem EntsV.some {es : List MapEntry} {L : List (κ × Value)} (h : EntsV enc es L) (hi : ∀ {a b : κ}, enc a = enc b → a = b) (hp : (es.map (·.key)).Nodup) {k : κ} {j : Nat} {e : MapEntry} (he : es[j]? = some e) (hk : e.key = enc k) :
    j < L.length ∧ (L.findIdx? fun p => decide (p.1 = k)) = some j ∧ yz L k = some e.val := by
  obtain ⟨p, h1, h2, h3⟩ := h.at_ he
  have hjl := (List.getElem?_eq_some_iff.1 h1).1
  have hpe : L[j] = p := (List.getElem?_eq_some_iff.1 h1).2
  have hpk : p.1 = k := hi (by rw [← h2, hk])
  have hn := h.nodup hp
  have first : ∀ i (hij : i < j), ¬ (L[i]'(by omega)).1 = k := fun i hij => by
    have := List.pairwise_iff_getElem.1 (List.pairwise_map.1 hn) i j (by omega) hjl hij
    intro e; exact this (by rw [e, hpe, hpk])
  refine ⟨hjl, ?_, ?_⟩
  · rw [List.findIdx?_eq_some_iff_getElem]
    exact ⟨hjl, by simp [hpe, hpk], fun i hi => by simpa using first i hi⟩
  · unfold yz
    have : (L.find? fun p => decide (p.1 = k)) = Option.some p := by
      rw [List.find?_eq_some_iff_getElem]
      exact ⟨by simp [hpk], j, hjl, hpe, fun i hi => by simpa using first i hi⟩
    rw [this, Option.map_some, h3]

def IsMap (enc : κ → Value) (w : World) (m : Nat) (L : List (κ × Value)) : Prop := ∃ es clock, w.heap[m]? = some (.map es clock) ∧ Stamped es clock ∧ EntsV enc es.toList L ∧ clock = es.size
def IsMapE (enc : κ → Value) (w : World) (m : Nat) (L : List (κ × Value)) (j : Nat) (s : Int) : Prop := ∃ es clock, w.heap[m]? = some (.map es clock) ∧ Stamped es clock ∧ EntsV enc es.toList L ∧ clock = es.size ∧ ∃ e, es[j]? = some e ∧ (e.born : Int) = s
theorem IsMapE.is {w : World} {m j : Nat} {s : Int} {L : List (κ × Value)} (h : IsMapE enc w m L j s) : IsMap enc w m L := by obtain ⟨es, c, h1, h2, h3, h4, _⟩ := h; exact ⟨es, c, h1, h2, h3, h4⟩
theorem IsMap.lt {w : World} {m : Nat} {L : List (κ × Value)} (h : IsMap enc w m L) : m < w.heap.size := by obtain ⟨es, c, hb, _⟩ := h; exact yK hb
theorem IsMap.nodup {w : World} {m : Nat} {L : List (κ × Value)} (h : IsMap enc w m L) : (L.map (·.1)).Nodup := by
  obtain ⟨es, c, hb, hs, he, _⟩ := h
  exact he.nodup hs.2.2
end

section
variable {P : Program} {d : Option Tmp} {ty : TypeId} {pos : String} {af : Array Edge} {gd : Option (Nat × Bool)} {σ : Env} {w : World} {K : Value → World → Prop} {κ : Type} [DecidableEq κ] {enc : κ → Value} {G : Nat → Prop} {W : World} {As : List HP} {m : Nat} {L : List (κ × Value)}

theorem Wv {m : Nat} {es es' : Array MapEntry} {c c' : Nat} (hb : w.heap[m]? = some (.map es c)) : Chg (fun i => i = m) w { w with heap := w.heap.setIfInBounds m (.map es' c') } := by
  refine ⟨rfl, rfl, rfl, by simp, fun i hi hne => (heap_set hb).2 i hne, ?_, Nat.le_refl _⟩
  rintro i ⟨c, T, hc⟩
  have hne : i ≠ m := fun e => by subst e; rw [hb] at hc; cases hc
  exact ⟨c, T, by rw [(heap_set hb).2 i hne]; exact hc⟩
theorem VG {es : Array MapEntry} (h : EntsV enc es.toList L) (k : κ) (v : Value) (n : Nat) : EntsV enc (es.push { key := enc k, val := v, born := n }).toList (L ++ [(k, v)]) := by
  unfold EntsV at *
  rw [Array.toList_push, List.map_append, List.map_append, h]
  rfl
theorem UH {es : Array MapEntry} (h : EntsV enc es.toList L) {k : κ} {v : Value} {j : Nat} {e : MapEntry} (he : es.toList[j]? = some e) (f : MapEntry → MapEntry) (hk : (f e).key = enc k) (hv : (f e).val = v) : EntsV enc (es.modify j f).toList (L.set j (k, v)) := by
  unfold EntsV at *
  rw [Array.toList_modify, List.modify_eq_set, he]
  simp only [Option.map_some, Option.getD_some, List.map_set, h, hk, hv]

theorem WH {t kt et : TypeId} {x y : Operand} {k : κ} {z : Value} (hK : KLaw P kt enc) (hU : P.underlying t = some (.map kt et)) (hZ : ∀ w, (zeroValue et).run P w = .ok z w)
    (hx : ev σ x = .map (some m)) (hy : ev σ y = enc k) (hm : IsMap enc w m L) (h : K (.tuple #[(yz L k).getD z, .bool (yz L k).isSome]) w) : opV P ⟨d, .lookup t x y true, ty, pos, af, gd⟩ σ w K := by
  obtain ⟨es, clock, hb, hs, he, _⟩ := hm
  rcases hK.find k w es.toList he.keys with ⟨h1, h2⟩ | ⟨j, e, h1, h2, h3⟩
  · rw [(he.none h2).2] at h
    refine zN (v := .tuple #[z, .bool false]) (w' := w) ?_ h
    simp [execOp, hx, hy, Instr.lookup, run_underlying hU, MapKept.run_getObj_map hb, hK.check, h1, hZ, go_sem]
  · rw [(he.some hK.inj hs.2.2 h2 h3).2.2] at h
    refine zN (v := .tuple #[e.val, .bool true]) (w' := w) ?_ h
    simp [execOp, hx, hy, Instr.lookup, run_underlying hU, MapKept.run_getObj_map hb, hK.check, h1, go_sem]
theorem Xm {t kt et : TypeId} {x y z : Operand} {k : κ} {v : Value} (hK : KLaw P kt enc) (hU : P.underlying t = some (.map kt et)) (hx : ev σ x = .map (some m)) (hy : ev σ y = enc k) (hz : ev σ z = v) (hm : IsMap enc w m L)
    (h : ∀ w1, IsMap enc w1 m (UP L k v) → Chg (fun i => i = m) w w1 → K undef w1) : opV P ⟨d, .mapUpdate t x y z, ty, pos, af, gd⟩ σ w K := by
  obtain ⟨es, clock, hb, hs, he, hcl⟩ := hm
  rcases hK.find k w es.toList he.keys with ⟨h1, h2⟩ | ⟨j, e, h1, h2, h3⟩
  · refine YA (w' := { w with heap := w.heap.setIfInBounds m (.map (es.push { key := enc k, val := v, born := clock }) (clock + 1)) }) ?_ (h _ ?_ (Wv hb))
    · simp [execOp, hx, hy, hz, Instr.mapUpdate, run_underlying hU, MapKept.run_getObj_map hb, hK.check, h1, MapKept.run_setObj_map _ hb, go_sem]
    · unfold UP
      rw [(he.none h2).1]
      exact ⟨_, _, (heap_set hb).1, stamped_push hs h2, VG he k v clock, by simp [hcl]⟩
  · have hja : es[j]? = some e := by simpa using h2
    obtain ⟨hjl, hfi, _⟩ := he.some hK.inj hs.2.2 h2 h3
    refine YA (w' := { w with heap := w.heap.setIfInBounds m (.map (es.modify j fun e => { e with key := enc k, val := v }) clock) }) ?_ (h _ ?_ (Wv hb))
    · simp [execOp, hx, hy, hz, Instr.mapUpdate, run_underlying hU, MapKept.run_getObj_map hb, hK.check, h1, hja, h3, hK.keeps, MapKept.run_setObj_map _ hb, go_sem]
    · unfold UP
      rw [hfi]
      exact ⟨_, _, (heap_set hb).1, stamped_modify hs _ _ (fun _ _ => rfl) (fun e' _ he' => by rw [hja] at he'; cases he'; exact h3.symm), UH he h2 _ rfl rfl, by simp [hcl]⟩
end
end Go.Proofs.Ytmiihhbeclhaoaa
end

section
/- Maps with structs as keys, each value with memory of its own. -/
namespace Go.Proofs.Ytmiihhbeclhaoaa
open Go.RowKit Go.MapKept

section
variable {κ β : Type} [DecidableEq κ]
theorem XQ {L : List (κ × β)} {k q : κ} {v : β} : yz (L ++ [(k, v)]) q = (yz L q).or (if k = q then some v else none) := by
  unfold yz
  rw [List.find?_append]
  cases h : L.find? fun p => decide (p.1 = q) with
  | some p => simp
  | none => by_cases e : k = q <;> simp [List.find?, e]
theorem Xk {L : List (κ × β)} {k : κ} (h : (L.findIdx? fun p => decide (p.1 = k)) = none) : yz L k = none := by
  rw [List.findIdx?_eq_none_iff] at h
  unfold yz
  rw [Option.map_eq_none_iff, List.find?_eq_none]
  intro p hp
  simp [h p hp]
theorem UQ {L : List (κ × β)} {k q : κ} {v : β} {j : Nat} {p : κ × β} (hj : L[j]? = some p) (hp : p.1 = k) (hf : ∀ i, i < j → ∀ r, L[i]? = some r → r.1 ≠ k) : yz (L.set j (k, v)) q = if k = q then some v else yz L q := by
  induction L generalizing j with
  | nil => simp at hj
  | cons a L ih =>
    cases j with
    | zero =>
      simp only [List.getElem?_cons_zero, Option.some.injEq] at hj
      subst hj
      unfold yz
      by_cases e : k = q
      · subst e; simp
      · simp [e, hp]
    | succ j =>
      have h1 := ih (j := j) (by simpa using hj) (fun i hi r hr => hf (i + 1) (by omega) r (by simpa using hr))
      have h0 := hf 0 (by omega) a rfl
      unfold yz at h1 ⊢
      rw [List.set_cons_succ, List.find?_cons, List.find?_cons]
      by_cases e : a.1 = q
      · have : ¬ k = q := fun e2 => h0 (by rw [e, e2])
        simp [e, this]
      · simp only [e, decide_false]
        exact h1
theorem Xn {L : List (κ × β)} {k : κ} {j : Nat} (h : (L.findIdx? fun p => decide (p.1 = k)) = some j) : (∃ p, L[j]? = some p ∧ p.1 = k) ∧ ∀ i, i < j → ∀ r, L[i]? = some r → r.1 ≠ k := by
  rw [List.findIdx?_eq_some_iff_getElem] at h
  obtain ⟨hj, h1, h2⟩ := h
  refine ⟨⟨L[j], List.getElem?_eq_getElem hj, by simpa using h1⟩, fun i hi r hr => ?_⟩
  have := h2 i hi
  obtain ⟨hil, e⟩ := List.getElem?_eq_some_iff.1 hr
  rw [← e]; simpa using this
theorem VN (L : List (κ × β)) (k q : κ) (v : β) : yz (UP L k v) q = if k = q then some v else yz L q := by
  unfold UP
  split
  · rename_i j hj
    obtain ⟨⟨p, h1, h2⟩, h3⟩ := Xn hj
    exact UQ h1 h2 h3
  · rename_i hj
    rw [XQ]
    by_cases e : k = q
    · subst e; rw [Xk hj]; simp
    · simp [e]
end

def Yg {κ α : Type} [DecidableEq κ] (X : κ → Option α) (k : κ) (x : α) : κ → Option α := fun q => if k = q then some x else X q

section
variable {κ α : Type} [DecidableEq κ]
def ValAt (E : Value → α → HP) (w : World) (F : Nat → Prop) : Option Value → Option α → Prop
  | some v, some x => (E v x).p w F
  | none, none => True
  | _, _ => False
theorem ValAt.loc {E : Value → α → HP} {w w' : World} {F F' : Nat → Prop} : ∀ {v : Option Value} {x : Option α}, ValAt E w F v x → (∀ b, F b → b < w.heap.size → w'.heap[b]? = w.heap[b]? ∧ F' b) → ValAt E w' F' v x
  | some v, some x, h, hf => (E v x).loc h hf
  | none, none, _, _ => trivial
  | some _, none, h, _ => h.elim
  | none, some _, h, _ => h.elim
theorem ValAt.isSome {E : Value → α → HP} {w : World} {F : Nat → Prop} : ∀ {v : Option Value} {x : Option α}, ValAt E w F v x → v.isSome = x.isSome
  | some _, some _, _ => rfl
  | none, none, _ => rfl
  | some _, none, h => h.elim
  | none, some _, h => h.elim
structure Spread (w : World) (m : Nat) (f : Nat → Prop) (g : κ → Nat → Prop) : Prop where
  sub : ∀ k b, g k b → f b ∧ b < w.heap.size ∧ b ≠ m
  apart : ∀ k k', k ≠ k' → ∀ b, g k b → ¬ g k' b
theorem Spread.loc {w w' : World} {m : Nat} {f f' : Nat → Prop} {g : κ → Nat → Prop} (h : Spread w m f g) (hf : ∀ b, f b → b < w.heap.size → w'.heap[b]? = w.heap[b]? ∧ f' b) : Spread w' m f' g :=
  ⟨fun k b hb => ⟨(hf b (h.sub k b hb).1 (h.sub k b hb).2.1).2, by
    obtain ⟨h1, h2, _⟩ := h.sub k b hb
    have := (hf b h1 h2).1
    rw [Array.getElem?_eq_getElem h2] at this
    exact (Array.getElem?_eq_some_iff.1 this).1, (h.sub k b hb).2.2⟩, h.apart⟩
def MapO (enc : κ → Value) (E : Value → α → HP) (m : Nat) (X : κ → Option α) : HP := ⟨fun w f => ∃ (R : List (κ × Value)) (g : κ → Nat → Prop), f m ∧ IsMap enc w m R ∧ (∀ k, ValAt E w (g k) (yz R k) (X k)) ∧ Spread w m f g, fun {w w' f f'} h hf => by
  obtain ⟨R, g, hm, ⟨es, c, hb, r⟩, hv, hs⟩ := h
  exact ⟨R, g, (hf m hm (yK hb)).2, ⟨es, c, ((hf m hm (yK hb)).1).trans hb, r⟩, fun k => (hv k).loc (fun b hg hlt => ⟨(hf b (hs.sub k b hg).1 hlt).1, hg⟩), hs.loc hf⟩⟩
def ZS (enc : κ → Value) (E : Value → α → HP) (z : Value) (m : Nat) (X : κ → Option α) (k : κ) (v : Value) : HP := ⟨fun w f => ∃ (R : List (κ × Value)) (g : κ → Nat → Prop), f m ∧ IsMap enc w m R ∧ (yz R k).getD z = v ∧ (yz R k).isSome = (X k).isSome ∧ (∀ q, q ≠ k → ValAt E w (g q) (yz R q) (X q)) ∧ Spread w m f g, fun {w w' f f'} h hf => by
  obtain ⟨R, g, hm, ⟨es, c, hb, r⟩, h1, h2, hv, hs⟩ := h
  exact ⟨R, g, (hf m hm (yK hb)).2, ⟨es, c, ((hf m hm (yK hb)).1).trans hb, r⟩, h1, h2, fun q hq => (hv q hq).loc (fun b hg hlt => ⟨(hf b (hs.sub q b hg).1 hlt).1, hg⟩), hs.loc hf⟩⟩
def KVal (E : Value → α → HP) (v : Value) : Option α → HP
  | some x => E v x
  | none => Emp
end

section
variable {κ α : Type} [DecidableEq κ] {enc : κ → Value} {E : Value → α → HP} {z : Value} {m : Nat} {X : κ → Option α} {k : κ} {v : Value} {G : Nat → Prop} {W w : World} {As : List HP}
theorem Sep.mapoNew {w' : World} (h : Sep G W As w) (hn : New w w' w.heap.size (.map #[] 0)) : Sep G W (MapO enc E w.heap.size (fun _ : κ => (none : Option α)) :: As) w' :=
  h.push hn.ext (f := fun i => i = w.heap.size) ⟨[], fun _ _ => False, rfl, ⟨#[], 0, hn.at_, stamped_empty 0, rfl, rfl⟩, fun _ => trivial, ⟨fun _ _ h => h.elim, fun _ _ _ _ h => h.elim⟩⟩ (fun i hi => by omega)
theorem Sep.mapoTake (h : Sep G W (MapO enc E m X :: As) w) (z : Value) (k : κ) : ∃ v, (X k = none → v = z) ∧ Sep G W (ZS enc E z m X k v :: KVal E v (X k) :: As) w := by
  obtain ⟨fs, q1, q2⟩ := h.parts
  obtain ⟨⟨R, g, hm, hM, hv, hs⟩, hl⟩ := q1 0 _ rfl
  refine ⟨(yz R k).getD z, fun hx => ?_, ?_⟩
  · have := (hv k).isSome
    rw [hx] at this
    cases hR : yz R k with
    | none => rfl
    | some u => rw [hR] at this; cases this
  · have h1 : Sep G W (Star [ZS enc E z m X k ((yz R k).getD z), KVal E ((yz R k).getD z) (X k)] :: As) w := by
      refine ⟨h.kept, fs, fun i C hC => ?_, fun i j hi hj => q2 i j (by simpa using hi) (by simpa using hj)⟩
      cases i with
      | succ i => exact q1 (i + 1) C (by simpa using hC)
      | zero =>
        simp only [List.getElem?_cons_zero, Option.some.injEq] at hC
        subst hC
        refine ⟨⟨fun i b => if i = 0 then fs 0 b ∧ ¬ g k b ∧ b < w.heap.size else g k b, fun i C hC => ?_, fun i j hi hj hne b hb => ?_⟩, hl⟩
        · match i, hC with
          | 0, hC =>
            simp only [List.getElem?_cons_zero, Option.some.injEq] at hC
            subst hC
            refine ⟨⟨R, fun q b => if q = k then False else g q b, ⟨hm, fun hg => (hs.sub k m hg).2.2 rfl, hM.lt⟩, hM, rfl, (hv k).isSome, fun q hq => ?_, ⟨fun q b hb => ?_, fun q q' hne b hb hb' => ?_⟩⟩, fun b hb => ⟨hb.1, hb.2.2⟩⟩
            · simp only [if_neg hq]; exact hv q
            · by_cases e : q = k
              · rw [if_pos e] at hb; exact hb.elim
              · rw [if_neg e] at hb
                have := hs.sub q b hb
                exact ⟨⟨this.1, fun h9 => hs.apart q k e b hb h9, this.2.1⟩, this.2.1, this.2.2⟩
            · by_cases e : q = k
              · rw [if_pos e] at hb; exact hb.elim
              · by_cases e' : q' = k
                · rw [if_pos e'] at hb'; exact hb'.elim
                · rw [if_neg e] at hb; rw [if_neg e'] at hb'; exact hs.apart q q' hne b hb hb'
          | 1, hC =>
            simp only [List.getElem?_cons_succ, List.getElem?_cons_zero, Option.some.injEq] at hC
            subst hC
            refine ⟨?_, fun b hb => ⟨(hs.sub k b hb).1, (hs.sub k b hb).2.1⟩⟩
            have := hv k
            cases hR : yz R k with
            | none =>
              rw [hR] at this
              cases hX : X k with
              | none => exact trivial
              | some x => rw [hX] at this; exact this.elim
            | some u =>
              rw [hR] at this
              cases hX : X k with
              | none => rw [hX] at this; exact this.elim
              | some x => rw [hX] at this; exact this
          | i + 2, hC => simp at hC
        · simp only [List.length_cons, List.length_nil] at hi hj
          match i, j, hb with
          | 0, 0, _ => exact absurd rfl hne
          | 0, 1, hb => exact hb.2.1
          | 1, 0, hb => exact fun h9 => h9.2.1 hb
          | 1, 1, _ => exact absurd rfl hne
          | i + 2, _, _ => omega
          | 0, j + 2, _ => omega
          | 1, j + 2, _ => omega
    exact h1.openStar
theorem VB {f : Nat → Prop} {g : κ → Nat → Prop} {f0 f1 : Nat → Prop} {w1 : World} (hs : Spread w m f0 g) (h0 : ∀ b, f0 b → f b ∧ b < w.heap.size) (h1 : ∀ b, f1 b → f b ∧ b < w.heap.size) (hd : ∀ b, f0 b → ¬ f1 b) (hm : f0 m) (hz : w.heap.size ≤ w1.heap.size) : Spread w1 m f (fun q b => if q = k then f1 b else g q b) := by
  refine ⟨fun q b hb => ?_, fun q q' hne b hb hb' => ?_⟩
  · by_cases e : q = k
    · simp only [if_pos e] at hb
      exact ⟨(h1 b hb).1, Nat.lt_of_lt_of_le (h1 b hb).2 hz, fun e2 => hd m hm (e2 ▸ hb)⟩
    · simp only [if_neg e] at hb
      have := hs.sub q b hb
      exact ⟨(h0 b this.1).1, Nat.lt_of_lt_of_le this.2.1 hz, this.2.2⟩
  · by_cases e : q = k
    · simp only [if_pos e] at hb
      have e' : ¬ q' = k := fun e2 => hne (e.trans e2.symm)
      simp only [if_neg e'] at hb'
      exact hd b (hs.sub q' b hb').1 hb
    · simp only [if_neg e] at hb
      by_cases e' : q' = k
      · simp only [if_pos e'] at hb'
        exact hd b (hs.sub q b hb).1 hb'
      · simp only [if_neg e'] at hb'
        exact hs.apart q q' hne b hb hb'
end

section
variable {P : Program} {d : Option Tmp} {ty : TypeId} {pos : String} {af : Array Edge} {gd : Option (Nat × Bool)} {σ : Env} {w : World} {K : Value → World → Prop} {κ α : Type} [DecidableEq κ] {enc : κ → Value} {E : Value → α → HP} {z : Value} {m : Nat} {X : κ → Option α} {k : κ} {v : Value} {G : Nat → Prop} {W : World} {As : List HP}
theorem Xc {t kt et : TypeId} {x y u : Operand} {v' : Value} {x' : α} (h : Sep G W (ZS enc E z m X k v :: E v' x' :: As) w) (hK : KLaw P kt enc) (hU : P.underlying t = some (.map kt et)) (hx : ev σ x = .map (some m)) (hy : ev σ y = enc k) (hu : ev σ u = v')
    (hk : ∀ w1, Sep G W (MapO enc E m (Yg X k x') :: As) w1 → K undef w1) : opV P ⟨d, .mapUpdate t x y u, ty, pos, af, gd⟩ σ w K := by
  have hst := h.closeStar (Bs := [ZS enc E z m X k v, E v' x'])
  obtain ⟨ff, q1, q2⟩ := hst.parts
  obtain ⟨⟨gs, r1, r2⟩, hl⟩ := q1 0 _ rfl
  obtain ⟨⟨R, g, hm, hM, hz, hi, hv, hs⟩, hf0⟩ := r1 0 _ rfl
  obtain ⟨hN, hf1⟩ := r1 1 _ rfl
  have r2' := r2 0 1 (by simp) (by simp) (by simp)
  refine Xm hK hU hx hy hu hM (fun w1 hM1 hc => hk w1 ?_)
  have keep : ∀ b, b ≠ m → b < w.heap.size → w1.heap[b]? = w.heap[b]? := fun b hb hlt => hc.block b hlt hb
  have key : (MapO enc E m (Yg X k x')).p w1 (ff 0) := by
    refine ⟨UP R k v', fun q b => if q = k then gs 1 b else g q b, (hf0 m hm).1, hM1, fun q => ?_, VB hs hf0 hf1 r2' hm hc.size⟩
    rw [VN]
    unfold Yg
    by_cases e : q = k
    · subst e
      simp only [if_true]
      exact (E v' x').loc hN (fun b hb hlt => ⟨keep b (fun e2 => r2' m hm (e2 ▸ hb)) hlt, hb⟩)
    · simp only [if_neg e, if_neg (Ne.symm e)]
      exact (hv q e).loc (fun b hb hlt => ⟨keep b (hs.sub q b hb).2.2 hlt, hb⟩)
  refine ⟨hst.kept.chg hc (fun b hb => by subst hb; exact (hl _ (hf0 _ hm).1).1), ff, fun i C hC => ?_, fun i j hi hj => q2 i j (by simpa using hi) (by simpa using hj)⟩
  cases i with
  | zero =>
    simp only [List.getElem?_cons_zero, Option.some.injEq] at hC
    subst hC
    exact ⟨key, fun b hb => ⟨(hl b hb).1, Nat.lt_of_lt_of_le (hl b hb).2 hc.size⟩⟩
  | succ i =>
    obtain ⟨hp, hlp⟩ := q1 (i + 1) C (by simpa using hC)
    have hne : ∀ b, ff (i + 1) b → b ≠ m := fun b hb e2 => by
      subst e2
      exact q2 0 (i + 1) (by simp) (by have := (List.getElem?_eq_some_iff.1 hC).1; simpa using this) (by omega) _ (hf0 _ hm).1 hb
    exact ⟨C.loc hp (fun b hb hlt => ⟨keep b (hne b hb) hlt, hb⟩), fun b hb => ⟨(hlp b hb).1, Nat.lt_of_lt_of_le (hlp b hb).2 hc.size⟩⟩
end
end Go.Proofs.Ytmiihhbeclhaoaa
end

section
/- Steps of the proofs of this seat: part A7. -/
set_option maxRecDepth 8000
set_option maxHeartbeats 4000000
namespace Go.Proofs.Ytmiihhbeclhaoaa
open Go.Proofs Go.RowKit

theorem ck3 (w : World) (e : Bool) (n : Nat) (a : Int) : (Instr.checkKey e (n + 1) 3 (.int .i64 a)).run Try.prog w = .ok () w := MapKept.run_checkKey Try.underlying3 (show MapKept.IsKey (.int .i64) (.int .i64 a) from rfl) e n
def xd (k : Int × Int) : Value := .agg #[.int .i64 k.1, .int .i64 k.2]
theorem K2 : KLaw Try.prog 33 xd where
  inj := by
    rintro ⟨a, b⟩ ⟨c, d⟩ h
    simp only [xd, Value.agg.injEq, Array.mk.injEq, List.cons.injEq, Value.int.injEq, true_and, and_true] at h
    rw [h.1, h.2]
  desc := ⟨_, Try.underlying33, fun _ _ => rfl⟩
  check := by
    intro w e k
    show (Instr.checkKey e 10000 33 (.agg #[.int .i64 k.1, .int .i64 k.2])).run Try.prog w = .ok () w
    rw [show (10000 : Nat) = 9998 + 1 + 1 from rfl, Instr.checkKey]
    simp [go_sem, ck3]
  eql := by
    rintro w ⟨a, b⟩ ⟨c, d⟩
    rw [show decide ((a, b) = (c, d)) = (a == c && b == d) by rw [← KZ]; simp]
    unfold Op.equal Op.maxDepth xd
    simp [go_sem]
    by_cases h1 : a = c <;> by_cases h2 : b = d <;> simp [h1, h2]
  stays := by intro k; simp [Instr.sameBits, xd]
def EV (v : Value) (e : Ev) : HP := ⟨fun w f => ∃ vd, v = .agg (e.cells vd).toArray ∧ e.Ok ∧ (RowE (α := Int) own 3 vd e.deps).p w f, fun h hf => by
  obtain ⟨vd, h1, h2, h3⟩ := h
  exact ⟨vd, h1, h2, HP.loc _ h3 hf⟩⟩
def xI : Value := .agg ((⟨0, 0, 0, [], 0, 0, 0, 0, 0, 0⟩ : Ev).cells (.slice none 0 0)).toArray
def zq (L : List Ev) : Int × Int → Option Ev := fun k => L.find? (fun e => decide (e.origin = k.1 ∧ e.seq = k.2))
def xE (L : List Ev) (o : Nat) : Nat := (L.filter (fun e => decide (e.origin = (o : Int)))).length
def zz (n : Nat) (L : List Ev) : List Int := (List.range n).map (fun o => ((xE L o : Nat) : Int))
def xh (L : List Ev) : Int := L.foldr (fun e m => max m e.lam) 0
def SetO (b : Nat) (n : Nat) (L : List Ev) : HP := Ex1 fun vv => Ex1 fun m => Star [Blk b #[vv, .map (some m), .int .i64 (xh L)] 59, RowE (α := Int) own 3 vv (zz n L), MapO xd EV m (zq L)]
end Go.Proofs.Ytmiihhbeclhaoaa
end

section
/- Steps of the proofs of this seat: part A8. -/
set_option maxRecDepth 8000
set_option maxHeartbeats 4000000
namespace Go.Proofs.Ytmiihhbeclhaoaa
open Go.Proofs Go.RowKit

section
variable {G : Nat → Prop} {W w : World} {As : List HP} {b n : Nat} {L : List Ev}
theorem SetO.open (h : Sep G W (SetO b n L :: As) w) : ∃ vv m, Sep G W (Blk b #[vv, .map (some m), .int .i64 (xh L)] 59 :: RowE (α := Int) own 3 vv (zz n L) :: MapO xd EV m (zq L) :: As) w := by
  obtain ⟨vv, h⟩ := h.openEx
  obtain ⟨m, h⟩ := h.openEx
  exact ⟨vv, m, h.openStar⟩
theorem SetO.close {vv : Value} {m : Nat} {t : Int} {v : List Int} {X : Int × Int → Option Ev} (h : Sep G W (Blk b #[vv, .map (some m), .int .i64 t] 59 :: RowE (α := Int) own 3 vv v :: MapO xd EV m X :: As) w) (ht : t = xh L) (hv : v = zz n L) (hX : X = zq L) : Sep G W (SetO b n L :: As) w := by
  subst ht hv hX
  have h := Sep.closeStar (Bs := [Blk b #[vv, .map (some m), .int .i64 (xh L)] 59, RowE (α := Int) own 3 vv (zz n L), MapO xd EV m (zq L)]) h
  exact Sep.closeEx (A := fun vv => Ex1 fun m => Star [Blk b #[vv, .map (some m), .int .i64 (xh L)] 59, RowE (α := Int) own 3 vv (zz n L), MapO xd EV m (zq L)]) vv (Sep.closeEx (A := fun m => Star [Blk b #[vv, .map (some m), .int .i64 (xh L)] 59, RowE (α := Int) own 3 vv (zz n L), MapO xd EV m (zq L)]) m h)
structure SetR (W : World) (G : Nat → Prop) (m : Nat) (R : List ((Int × Int) × Value)) (L : List Ev) : Prop where
  gm : G m
  is : IsMap xd W m R
  at_ : ∀ k, ∃ (x : Ev) (vd : Value), x = (zq L k).getD default ∧ (yz R k).getD xI = .agg (x.cells vd).toArray ∧ x.Ok ∧ RdS W G vd x.deps ∧ (yz R k).isSome = (zq L k).isSome
theorem IsMap.move {κ : Type} [DecidableEq κ] {enc : κ → Value} {W w : World} {m : Nat} {R : List (κ × Value)} (h : IsMap enc W m R) (e : w.heap[m]? = W.heap[m]?) : IsMap enc w m R := by
  obtain ⟨es, c, h1, h2⟩ := h
  exact ⟨es, c, e.trans h1, h2⟩
theorem MapO.rd {m : Nat} (h : (MapO xd EV m (zq L)).p W G) : ∃ R, SetR W G m R L := by
  obtain ⟨R, g, h1, h2, h3, h4⟩ := h
  refine ⟨R, h1, h2, fun k => ?_⟩
  have h5 := h3 k
  cases hR : yz R k with
  | none =>
    cases hX : zq L k with
    | none => exact ⟨default, .slice none 0 0, rfl, rfl, by constructor <;> decide, RdS.nil _ _, rfl⟩
    | some x => rw [hR, hX] at h5; exact h5.elim
  | some v =>
    cases hX : zq L k with
    | none => rw [hR, hX] at h5; exact h5.elim
    | some x =>
      rw [hR, hX] at h5
      obtain ⟨vd, e1, e2, e3⟩ := h5
      exact ⟨x, vd, rfl, e1, e2, (RowE.rd e3).weak (fun b _ hb => (h4.sub k b hb).1), rfl⟩
theorem SetO.sh (h : (SetO b n L).p W G) : ∃ vv m R, (Blk b #[vv, .map (some m), .int .i64 (xh L)] 59).p W G ∧ RdS W G vv (zz n L) ∧ SetR W G m R L := by
  obtain ⟨vv, m, h⟩ := h
  obtain ⟨R, hR⟩ := MapO.rd (Star.at_ h (i := 2) rfl)
  exact ⟨vv, m, R, Star.at_ h (i := 0) rfl, RowE.rd (T := 3) (Star.at_ h (i := 1) rfl), hR⟩
theorem xM {K : Value → World → Prop} {P : Program} {d : Option Tmp} {ty : TypeId} {pos : String} {af : Array Edge} {g : Option (Nat × Bool)} {σ : Env} {t kt et : TypeId} {x y : Operand} {m : Nat} {R : List ((Int × Int) × Value)} {k : Int × Int} {v : Value} {bb : Bool} (h : Sep G W As w) (hr : SetR W G m R L) (hK : KLaw P kt xd) (hU : P.underlying t = some (.map kt et)) (hZ : ∀ w, (zeroValue et).run P w = .ok xI w)
    (hx : ev σ x = .map (some m)) (hy : ev σ y = xd k) (hv : (yz R k).getD xI = v) (hb : (yz R k).isSome = bb) (hk : K (.tuple #[v, .bool bb]) w) : opV P ⟨d, .lookup t x y true, ty, pos, af, g⟩ σ w K := by
  subst hv hb
  exact WH hK hU hZ hx hy (hr.is.move (h.gb hr.gm)) hk
end
theorem WM {n : Nat} : List.replicate n (0 : Int) = zz n [] := by
  unfold zz xE
  refine List.ext_getElem (by simp) (fun i h1 h2 => by simp)
theorem xQ {n : Nat} {L : List Ev} : (zz n L).length = n := by simp [zz]
theorem ZI {n : Nat} {L : List Ev} {o : Nat} (h : o < n) : (zz n L).getD o 0 = ((xE L o : Nat) : Int) := by simp [zz, h]
theorem Zg {G : Nat → Prop} {W w : World} {Rs : List HP} {n : Nat} (hn : n ≤ 1000) (hS0 : Sep G W Rs w) : Ret Try.prog 11 [.int .i64 ((n : Nat) : Int)] w (fun r w' => ∃ (b : Nat), r = (.pointer (some ⟨b, 0, none⟩) : Value) ∧ Sep G W ((SetO b n ([] : List Ev)) :: Rs) w') := by
 refine zp (args := [.int .i64 ((n : Nat) : Int)]) Try.func11 rfl rfl ?_
 refine zc ?_
 refine za (by kernel_rfl) (fun _ => ?_)
 refine st (zd (v := .pointer none) rfl ?_)
 refine ze ?_
 refine zc ?_
 refine za (by kernel_rfl) (fun _ => ?_)
 refine st (zb (v := .int .i64 ((n : Nat) : Int)) rfl ?_)
 refine st (ZN (α := Int) (T := 3) (bytes := 8) (n := n) (x1 := (0 : Int)) Try.underlying34 ⟨_, _, rfl, rfl, rfl, rfl, rfl, fun _ _ => ⟨rfl, by decide⟩⟩ rfl rfl rfl (by show n * 8 ≤ 140737488355328; omega) ?_)
 intro w6 b1 hx2 he3 hl4 ho5
 have hS7 : Sep G W ((RowE (α := Int) own 3 (.slice (some ⟨b1, 0, none⟩) n n) (List.replicate n (0 : Int))) :: Rs) w6 := hS0.made hx2 ho5
 have hr8 := hS7.row (i := 0) rfl
 have hr8s : _ * 8 ≤ _ := hr8.2
 refine st (Vg ?_)
 intro w10 hn9
 obtain ⟨m11, m11e⟩ : ∃ z, z = w6.heap.size := ⟨_, rfl⟩; rw [← m11e]
 have hS12 : Sep G W ((MapO xd EV m11 (fun _ => none)) :: (RowE (α := Int) own 3 (.slice (some ⟨b1, 0, none⟩) n n) (List.replicate n (0 : Int))) :: Rs) w10 := (by rw [m11e]; exact hS7.mapoNew hn9)
 refine st (yP (parts' := [(0, (.slice (some ⟨b1, 0, none⟩) n n)), (1, .map (some m11))]) (v := .agg #[(.slice (some ⟨b1, 0, none⟩) n n), .map (some m11), .int .i64 (0)]) rfl (by obtain ⟨_, _, hv13, _⟩ := hr8.1; rw [show (.slice (some ⟨b1, 0, none⟩) n n) = Value.slice _ _ _ from hv13]; simp [Instr.build, Instr.fill, go_sem]) ?_)
 refine st (yg (v := .agg #[(.slice (some ⟨b1, 0, none⟩) n n), .map (some m11), .int .i64 (0)]) rfl ?_)
 intro w16 b15 hn14
 have hS17 := hS12.new hn14
 refine st (zd (v := .pointer (some ⟨b15, 0, none⟩)) rfl ?_)
 refine ze ?_
 refine zw ?_
 refine zL Try.results11 (show _ = (.pointer (some ⟨b15, 0, none⟩) : Value) from rfl) ?_
 have hS18 : Sep G W ((Blk b15 #[(.slice (some ⟨b1, 0, none⟩) n n), .map (some m11), .int .i64 (0)] 59) :: (RowE (α := Int) own 3 (.slice (some ⟨b1, 0, none⟩) n n) (List.replicate n (0 : Int))) :: (MapO xd EV m11 (fun _ => none)) :: Rs) w16 := hS17.sel 3 [0, 2, 1] (Nat.le_add_left _ _) rfl rfl
 have hS19 : Sep G W ((SetO b15 n ([] : List Ev)) :: Rs) w16 := SetO.close hS18 rfl WM rfl
 refine ⟨b15, rfl, hS19⟩

theorem YV {d : Option Tmp} {ty : TypeId} {pos : String} {af : Array Edge} {g : Option (Nat × Bool)} {σ : Env} {w : World} {K : Value → World → Prop} {x : Operand} {b o : Nat} (hx : ev σ x = .pointer (some ⟨b, o, none⟩)) (h : K (.pointer (some ⟨b, o + 0, none⟩)) w) : opV Try.prog ⟨d, .fieldAddr 59 x 0, ty, pos, af, g⟩ σ w K := zR Try.underlying59 rfl rfl (fun w => ⟨0, Try.sizeOf34 w⟩) hx h
theorem D_Vec {G : Nat → Prop} {W w : World} {Rs : List HP} {b : Nat} {n : Nat} {L : List Ev} (hb : (SetO b n L).p W G) (hS0 : Sep G W Rs w) : Ret Try.prog 45 [.pointer (some ⟨b, 0, none⟩)] w (fun r w' => ∃ (v : Value), r = (v : Value) ∧ Sep G W ((RowE (α := Int) own 3 v (zz n L)) :: Rs) w') := by
 refine zp (args := [.pointer (some ⟨b, 0, none⟩)]) Try.func45 rfl rfl ?_
 obtain ⟨vv1, m2, R3, hb4, hv5, hr6⟩ := SetO.sh hb
 have hsm7 : (zz n L).length * 8 ≤ 140737488355328 := hv5.small
 refine zc ?_
 refine za (by kernel_rfl) (fun _ => ?_)
 refine st (zd (v := (.slice none 0 0)) rfl ?_)
 refine ze ?_
 refine zc ?_
 refine za (by kernel_rfl) (fun _ => ?_)
 refine st (zb (v := .pointer (some ⟨b, 0, none⟩)) rfl ?_)
 refine st (zn (b := b) (o := 0) rfl ?_)
 refine st (YV rfl ?_)
 refine st (zg (v := vv1) Try.isAgg34 rfl (zf (hS0.gblk hb4) rfl) ?_)
 refine st (zj (f := 41) (vals := [vv1]) (cap := []) rfl rfl Try.call41 (Zy (l := zz n L) (vl := vv1) hv5 hS0) ?_)
 rintro v8 w9 ⟨_, rfl, hS10⟩
 have hr11 := hS10.row (i := 0) rfl
 have hr11s : _ * 8 ≤ _ := hr11.2
 refine st (zd (v := v8) rfl ?_)
 refine ze ?_
 refine zw ?_
 refine zL Try.results45 (show _ = (v8 : Value) from rfl) ?_
 refine ⟨v8, rfl, hS10⟩

end Go.Proofs.Ytmiihhbeclhaoaa
end
