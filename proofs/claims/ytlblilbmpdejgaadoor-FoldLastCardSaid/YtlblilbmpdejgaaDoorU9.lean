import Derived.Test.YtlblilbmpdejgaaDoorU8
set_option linter.unusedSimpArgs false
set_option linter.unusedVariables false
set_option linter.unusedSectionVars false
set_option linter.deprecated false
/- Steps of the proofs of this seat: part F5. -/
set_option maxRecDepth 8000
set_option maxHeartbeats 4000000
namespace Go.Proofs.YtlblilbmpdejgaaDoor
open Go.Proofs Go.RowKit

def xn (d : Dcl) (k : Int × Int) (L : List Ent) : Sta := ⟨((zX k L : Nat) : Int), stL d k L⟩
theorem xP (d : Dcl) (l : List Ev) : (yM d l).length = l.length := by
  induction l using ZZ with
  | h0 => rfl
  | h1 l e ih => rw [xW, List.length_append, List.length_append, ih]; rfl
theorem Vv {d : Dcl} {l : List Ev} {k : Nat} (h : k < l.length) : yM d (l.take (k + 1)) = yM d (l.take k) ++ [zR d (yM d (l.take k)) (l.getD k default)] := by rw [List.take_getD (d := default) h, xW]
theorem UD {d : Dcl} {l : List Ev} {k : Nat} (h : l.length ≤ 1000000) : (yM d (l.take k)).length ≤ 1000000 := by rw [xP, List.length_take]; omega
theorem Xe {d : Option Tmp} {ty : TypeId} {pos : String} {af : Array Edge} {g : Option (Nat × Bool)} {σ : Env} {w : World} {K : Value → World → Prop} {x : Operand} {b o : Nat} (hx : ev σ x = .pointer (some ⟨b, o, none⟩)) (h : K (.pointer (some ⟨b, o + 2, none⟩)) w) : opV Tryd.prog ⟨d, .fieldAddr 111 x 1, ty, pos, af, g⟩ σ w K := zt Tryd.underlying111 rfl rfl (fun w => ⟨0, Tryd.sizeOf66 w⟩) hx h
set_option maxHeartbeats 8000000 in
theorem D_Add {G : Nat → Prop} {W w : World} {Rs : List HP} {b : Nat} {d : Dcl} {L : List Ent} {e : Ev} {de0 : Value} (hde0 : RdS W G de0 e.deps) (oe : e.Ok) (hKN : RdS W G (.slice (some ⟨0, 0, none⟩) 6 6) kindsL) (hS0 : Sep G W ((ViewO b d L L) :: Rs) w) (hd : DclOk d) (hinv : Inv d L) (hml : L.length ≤ 1000000) : Ret Tryd.prog 28 [.pointer (some ⟨b, 0, none⟩), .agg (e.cells de0).toArray] w (fun r w' => ∃ (v : Value), r = (.agg ((zR d L e).cells v).toArray : Value) ∧ Sep G W ((ViewO b d (L ++ [zR d L e]) (L ++ [zR d L e])) :: (RowE (α := Int) own 3 v e.deps) :: Rs) w') := by
 have hde0s : _ * 8 ≤ _ := hde0.small
 have hKNs : _ * 8 ≤ _ := hKN.small
 refine zr (args := [.pointer (some ⟨b, 0, none⟩), .agg (e.cells de0).toArray]) Tryd.func28 rfl rfl ?_
 refine zd ?_
 refine za (by kernel_rfl) (fun _ => ?_)
 refine st (yb (v := .agg (e.cells de0).toArray) rfl ?_)
 intro w3 b2 hn1
 have hS4 := hS0.new hn1
 refine st (zE Tryd.zeroValue62 ?_)
 intro w7 b6 hn5
 have hS8 := hS4.new hn5
 refine zf ?_
 refine zd ?_
 refine za (by kernel_rfl) (fun _ => ?_)
 refine st (zb (v := .pointer (some ⟨b, 0, none⟩)) rfl ?_)
 refine st (zl (k := 10) Tryd.isAgg59 Tryd.sizeOf59 rfl rfl (CellsAt.all (hS8.blk (i := 1) rfl)) ?_)
 refine st (zv (f := 60) (vals := [.agg (e.cells de0).toArray]) (cap := []) rfl rfl Tryd.call60 (ZY (e := e) hde0 oe hS8) ?_)
 rintro _ w10 ⟨v9, rfl, hS11⟩
 have hr12 := hS11.row (i := 0) rfl
 have hr12s : _ * 8 ≤ _ := hr12.2
 have hS13 := hS11.mv3
 refine st (zv (f := 59) (vals := [.pointer (some ⟨b, 0, none⟩), .agg (e.cells v9).toArray]) (cap := []) rfl rfl Tryd.call59 (D_try  oe hKN hS13 (hd) (hinv) (hml)) ?_)
 rintro _ w15 ⟨rfl, hin14, hS16⟩
 refine st (zb (v := .tuple #[.bool ((zT d L e).1), .agg #[.int .i64 ((zT d L e).2.1), .int .i64 ((zT d L e).2.2)]]) rfl ?_)
 refine st (zH (vs := [.bool ((zT d L e).1), .agg #[.int .i64 ((zT d L e).2.1), .int .i64 ((zT d L e).2.2)]]) (i := 0) (v := .bool ((zT d L e).1)) rfl rfl ?_)
 refine st (zH (vs := [.bool ((zT d L e).1), .agg #[.int .i64 ((zT d L e).2.1), .int .i64 ((zT d L e).2.2)]]) (i := 1) (v := .agg #[.int .i64 ((zT d L e).2.1), .int .i64 ((zT d L e).2.2)]) rfl rfl ?_)
 refine st (zE Tryd.zeroValue57 ?_)
 intro w19 b18 hn17
 have hS20 := hS16.new hn17
 refine st (ze (v := .bool ((zT d L e).1)) rfl ?_)
 refine stn (zy (v := .agg #[.int .i64 ((zT d L e).2.1), .int .i64 ((zT d L e).2.2)]) (c' := #[.int .i64 ((zT d L e).2.1), .int .i64 ((zT d L e).2.2)]) Tryd.sizeOf57 rfl rfl (hS20.blk (i := 0) rfl) (yj ⟨rfl, rfl, trivial⟩) (Nat.le_of_ble_eq_true rfl) rfl ?_)
 intro w21 hp22
 have hS23 := hS20.pt0 hp22
 refine zf ?_
 refine zd ?_
 have hek : Ent.Ok (zR d L e) := ⟨oe, hin14.1, hin14.2⟩
 have hS24 := hS23.mv1
 obtain ⟨vt25, vp26, ve27, m28, m29, hS30⟩ := ViewO.open hS24
 have hS30t : Sep G W ((BkV b vt25 vp26 ve27 m28 m29) :: (RwT vt25 d.types) :: (RwP vp26 d.projs) :: (RwN ve27 L) :: (zF yi E1 m28 (zj d (L ++ [zR d L e]))) :: (zF yr E2 m29 (zI (L ++ [zR d L e]))) :: (Blk b18 #[.int .i64 ((zT d L e).2.1), .int .i64 ((zT d L e).2.2)] 57) :: (Blk b6 #[.int .i64 (0), .int .i64 (0), .int .i64 (0), (.slice none 0 0), .int .i64 (0), .int .i64 (0), .int .i64 (0), .int .i64 (0), .int .i64 (0), .int .i64 (0), .bool false, .int .i64 (0), .int .i64 (0)] 62) :: (Blk b2 (e.cells de0).toArray 59) :: Rs) w21 := hS30
 have hr31 := hS30t.row (i := 1) rfl
 have hr31s : _ * 24 ≤ _ := hr31.2
 have hr32 := hS30t.row (i := 2) rfl
 have hr32s : _ * 40 ≤ _ := hr32.2
 have hr33 := hS30t.row (i := 3) rfl
 have hr33s : _ * 120 ≤ _ := hr33.2
 refine zP ((fun TT pp0 pp1 pp2 pp3 => WF [fun vals wq => Sep G W (pp0 :: pp1 :: pp2 :: pp3 :: TT) wq, fun vals wq => ∃ (v83 : Value), (vals 6 = (.agg (e.cells v83).toArray : Value)) ∧ Sep G W ((RwI v83 e.deps) :: pp0 :: pp1 :: pp2 :: pp3 :: TT) wq, fun vals wq => ∃ (v83 : Value) (b119 : Nat), (vals 6 = (.agg (e.cells v83).toArray : Value)) ∧ (vals 10 = ((.slice (some ⟨b119, 0, none⟩) 1 1) : Value)) ∧ Sep G W ((Blk b119 ((zR d L e).cells v83).toArray 62) :: (RwI v83 e.deps) :: pp0 :: pp1 :: pp2 :: pp3 :: TT) wq, fun vals wq => ∃ (v83 : Value) (b119 : Nat) (v132 : Value), (vals 6 = (.agg (e.cells v83).toArray : Value)) ∧ (vals 10 = ((.slice (some ⟨b119, 0, none⟩) 1 1) : Value)) ∧ (vals 11 = (v132 : Value)) ∧ Sep G W ((RwN v132 (L ++ [(zR d L e)])) :: pp0 :: pp1 :: pp2 :: TT) wq, fun vals wq => ∃ (v83 : Value) (b119 : Nat) (v132 : Value), (vals 6 = (.agg (e.cells v83).toArray : Value)) ∧ (vals 10 = ((.slice (some ⟨b119, 0, none⟩) 1 1) : Value)) ∧ (vals 11 = (v132 : Value)) ∧ Sep G W ((RwN v132 (L ++ [(zR d L e)])) :: (BkV b vt25 vp26 v132 m28 m29) :: pp1 :: pp2 :: TT) wq]) ((zF yi E1 m28 (zj d (L ++ [zR d L e]))) :: (zF yr E2 m29 (zI (L ++ [zR d L e]))) :: (Blk b18 #[.int .i64 ((zT d L e).2.1), .int .i64 ((zT d L e).2.2)] 57) :: (Blk b6 #[.int .i64 (0), .int .i64 (0), .int .i64 (0), (.slice none 0 0), .int .i64 (0), .int .i64 (0), .int .i64 (0), .int .i64 (0), .int .i64 (0), .int .i64 (0), .bool false, .int .i64 (0), .int .i64 (0)] 62) :: (Blk b2 (e.cells de0).toArray 59) :: Rs) (BkV b vt25 vp26 ve27 m28 m29) (RwT vt25 d.types) (RwP vp26 d.projs) (RwN ve27 L)) (AF [Vl 0 (.pointer (some ⟨b, 0, none⟩)), Vl 1 (.pointer (some ⟨b, 0, none⟩)), Vl 2 (.pointer (some ⟨b, 0, none⟩)), Vl 3 (.pointer (some ⟨b, 2, none⟩)), Vl 4 (ve27), Vl 5 (.agg (e.cells de0).toArray), fun _ => True, Vl 7 (.bool ((zT d L e).1)), Vl 8 (.agg #[.int .i64 ((zT d L e).2.1), .int .i64 ((zT d L e).2.2)]), fun vals => ∀ (v83 : Value), vals 6 = (.agg (e.cells v83).toArray : Value) → vals 9 = (.agg ((zR d L e).cells v83).toArray : Value), fun _ => True, fun _ => True, Vl 12 (.pointer (some ⟨b, 0, none⟩)), Vl 13 (.pointer (some ⟨b, 2, none⟩)), fun _ => True]) [[], [], [1], [1, 2], [1, 2, 3], [], [5], [], [], [5, 6, 7, 8], [5, 6, 7, 8, 9], [1, 2, 3, 4, 5, 6, 7, 8, 9, 10], [0, 1, 2, 3, 4, 5, 6, 7, 8, 9, 10, 11], [0, 1, 2, 3, 4, 5, 6, 7, 8, 9, 10, 11, 12], [0, 1, 2, 3, 4, 5, 6, 7, 8, 9, 10, 11, 12, 13]] [6, 10, 11, 14] [(0, 3), (0, 2), (0, 2), (0, 2), (0, 2), (0, 0), (0, 0), (0, 1), (0, 1), (1, 1), (1, 1), (2, 2), (3, 3), (3, 3), (3, 3)] (by kernel_rfl) (by kernel_rfl) (by kernel_rfl) rfl (by kernel_rfl) (by kernel_rfl) (fun _ h1 h2 h3 h4 _ => hS30t.same h1 h2 h3 h4) ?_ (yg ⟨dA, dA, dA, dA, dA, dA, dT, dA, dA, fun vals vals' hv h => fun v83 hq0 => (hv 9 (.inl rfl)).trans (h v83 ((hv 6 (.inr (by decide))).symm.trans hq0)), dT, dT, dA, dA, dT, trivial⟩) ⟨?_, ?_, ?_, ?_, ?_, ?_, ?_, ?_, ?_, ?_, ?_, ?_, ?_, ?_, ?_, trivial⟩ ?_
 ·intro k vals vals' w hv h
  have e : ∀ j ∈ ([6, 10, 11, 14] : List Nat), vals' j = vals j := hv
  match k, h with
  | 0, h => exact h
  | 1, h => exact (by simpa only [WF, List.getElem?_cons_zero, List.getElem?_cons_succ, e 6 (by decide)] using h)
  | 2, h => exact (by simpa only [WF, List.getElem?_cons_zero, List.getElem?_cons_succ, e 6 (by decide), e 10 (by decide)] using h)
  | 3, h => exact (by simpa only [WF, List.getElem?_cons_zero, List.getElem?_cons_succ, e 6 (by decide), e 10 (by decide), e 11 (by decide)] using h)
  | 4, h => exact (by simpa only [WF, List.getElem?_cons_zero, List.getElem?_cons_succ, e 6 (by decide), e 10 (by decide), e 11 (by decide)] using h)
  | _ + 5, _ => trivial
 ·intro k166 vals w167 h170 h171 hW169 hA168
  refine obl rfl ?_
  exact zb (v := .pointer (some ⟨b, 0, none⟩)) rfl (fun vals' hv _ => ⟨rfl, hv⟩)
 ·intro k172 vals w173 h176 h177 hW175 hA174
  refine obl rfl ?_
  exact zb (v := .pointer (some ⟨b, 0, none⟩)) rfl (fun vals' hv _ => ⟨rfl, hv⟩)
 ·intro k178 vals w179 h182 h183 hW181 hA180
  have e184 := hA180 1 (by decide)
  refine obl rfl ?_
  exact zL (b := b) (o := 0) e184 (fun vals' hv _ => ⟨rfl, hv⟩)
 ·intro k185 vals w186 h189 h190 hW188 hA187
  have e191 := hA187 2 (by decide)
  refine obl rfl ?_
  exact Xe e191 (fun vals' hv _ => ⟨rfl, hv⟩)
 ·intro k192 vals w193 h196 h197 hW195 hA194
  have hkk : k192 = 0 ∨ k192 = 1 ∨ k192 = 2 := by have h1 : 0 ≤ k192 := h196; have h2 : k192 ≤ 2 := h197; omega
  rcases hkk with rfl | rfl | rfl
  ·skip
   have hS198 : Sep _ _ _ _ := hW195
   have e199 := hA194 3 (by decide)
   refine obl rfl ?_
   exact zg (v := ve27) Tryd.isAgg66 e199 (zh (hS198.blk (i := 0) rfl) rfl) (fun vals' hv _ => ⟨rfl, hv⟩)
  ·skip
   obtain ⟨v83, he87, hS200⟩ := hW195
   have e201 := hA194 3 (by decide)
   refine obl rfl ?_
   exact zg (v := ve27) Tryd.isAgg66 e201 (zh (hS200.blk (i := 1) rfl) rfl) (fun vals' hv _ => ⟨rfl, hv⟩)
  ·skip
   obtain ⟨v83, b119, he87, he122, hS202⟩ := hW195
   have e203 := hA194 3 (by decide)
   refine obl rfl ?_
   exact zg (v := ve27) Tryd.isAgg66 e203 (zh (hS202.blk (i := 2) rfl) rfl) (fun vals' hv _ => ⟨rfl, hv⟩)
 ·intro k204 vals w205 h208 h209 hW207 hA206
  obtain rfl : k204 = 0 := Nat.le_antisymm h209 h208
  have hS210 : Sep _ _ _ _ := hW207
  refine obl rfl ?_
  exact zl (k := 10) Tryd.isAgg59 Tryd.sizeOf59 rfl rfl (CellsAt.all (hS210.blk (i := 8) rfl)) (fun vals' hv _ => ⟨rfl, hv⟩)
 ·intro k75 vals w76 h79 h80 hW78 hA77
  obtain rfl : k75 = 0 := Nat.le_antisymm h80 h79
  have hS81 : Sep _ _ _ _ := hW78
  have e82 := hA77 5 (by decide)
  refine obl rfl ?_
  refine (zv (f := 60) (vals := [.agg (e.cells de0).toArray]) (cap := []) rfl (xj ⟨e82, trivial⟩) Tryd.call60 (ZY (e := e) hde0 oe hS81) ?_)
  rintro _ w84 ⟨v83, rfl, hS85⟩
  have hr86 := hS85.row (i := 0) rfl
  have hr86s : _ * 8 ≤ _ := hr86.2
  intro vals' hv hv'
  refine ⟨?_, trivial⟩
  show ∃ (v83 : Value), (vals' 6 = (.agg (e.cells v83).toArray : Value)) ∧ Sep G W ((RwI v83 e.deps) :: (BkV b vt25 vp26 ve27 m28 m29) :: (RwT vt25 d.types) :: (RwP vp26 d.projs) :: (RwN ve27 L) :: (zF yi E1 m28 (zj d (L ++ [zR d L e]))) :: (zF yr E2 m29 (zI (L ++ [zR d L e]))) :: (Blk b18 #[.int .i64 ((zT d L e).2.1), .int .i64 ((zT d L e).2.2)] 57) :: (Blk b6 #[.int .i64 (0), .int .i64 (0), .int .i64 (0), (.slice none 0 0), .int .i64 (0), .int .i64 (0), .int .i64 (0), .int .i64 (0), .int .i64 (0), .int .i64 (0), .bool false, .int .i64 (0), .int .i64 (0)] 62) :: (Blk b2 (e.cells de0).toArray 59) :: Rs) w84
  exact ⟨v83, hv, hS85⟩
 ·intro k211 vals w212 h215 h216 hW214 hA213
  refine obl rfl ?_
  exact zb (v := .bool ((zT d L e).1)) rfl (fun vals' hv _ => ⟨rfl, hv⟩)
 ·intro k217 vals w218 h221 h222 hW220 hA219
  have hkk : k217 = 0 ∨ k217 = 1 := by have h1 : 0 ≤ k217 := h221; have h2 : k217 ≤ 1 := h222; omega
  rcases hkk with rfl | rfl
  ·skip
   have hS223 : Sep _ _ _ _ := hW220
   refine obl rfl ?_
   exact zl (k := 2) Tryd.isAgg57 Tryd.sizeOf57 rfl rfl (CellsAt.all (hS223.blk (i := 6) rfl)) (fun vals' hv _ => ⟨rfl, hv⟩)
  ·skip
   obtain ⟨v83, he87, hS224⟩ := hW220
   refine obl rfl ?_
   exact zl (k := 2) Tryd.isAgg57 Tryd.sizeOf57 rfl rfl (CellsAt.all (hS224.blk (i := 7) rfl)) (fun vals' hv _ => ⟨rfl, hv⟩)
 ·intro k225 vals w226 h229 h230 hW228 hA227
  obtain rfl : k225 = 1 := Nat.le_antisymm h230 h229
  obtain ⟨v83, he87, hS231⟩ := hW228
  have e232 := hA227 7 (by decide)
  have e233 := hA227 8 (by decide)
  refine obl rfl ?_
  refine zS (parts' := [(0, .agg (e.cells v83).toArray), (1, .bool ((zT d L e).1)), (2, .agg #[.int .i64 ((zT d L e).2.1), .int .i64 ((zT d L e).2.2)])]) (v := .agg ((zR d L e).cells v83).toArray) (xE ⟨rfl, he87, rfl, e232, rfl, e233, trivial⟩) (by simp [Instr.build, Instr.fill, go_sem, Ent.cells, Ev.cells, zR]) (fun vals' hv hv' => ⟨rfl, ?_⟩)
  intro v83q hq0
  rw [hv' 6 (by decide)] at hq0; cases he87.symm.trans hq0
  exact hv
 ·intro k110 vals w111 h114 h115 hW113 hA112
  obtain rfl : k110 = 1 := Nat.le_antisymm h115 h114
  obtain ⟨v83, he87, hS116⟩ := hW113
  have e117 : vals 9 = (.agg ((zR d L e).cells v83).toArray : Value) := hA112 9 (by decide) v83 he87
  refine obl rfl ?_
  refine (zB (k := 13) (parts' := [(0, .agg ((zR d L e).cells v83).toArray)]) (c := ((zR d L e).cells v83).toArray) Tryd.underlying66 Tryd.sizeOf62 Tryd.zeroValue62 (by decide) (xE ⟨rfl, e117, trivial⟩) (by kernel_rfl) ?_)
  intro w120 b119 hn118
  have hS121 := hS116.new hn118
  intro vals' hv hv'
  refine ⟨?_, trivial⟩
  show ∃ (v83 : Value) (b119 : Nat), (vals' 6 = (.agg (e.cells v83).toArray : Value)) ∧ (vals' 10 = ((.slice (some ⟨b119, 0, none⟩) 1 1) : Value)) ∧ Sep G W ((Blk b119 ((zR d L e).cells v83).toArray 62) :: (RwI v83 e.deps) :: (BkV b vt25 vp26 ve27 m28 m29) :: (RwT vt25 d.types) :: (RwP vp26 d.projs) :: (RwN ve27 L) :: (zF yi E1 m28 (zj d (L ++ [zR d L e]))) :: (zF yr E2 m29 (zI (L ++ [zR d L e]))) :: (Blk b18 #[.int .i64 ((zT d L e).2.1), .int .i64 ((zT d L e).2.2)] 57) :: (Blk b6 #[.int .i64 (0), .int .i64 (0), .int .i64 (0), (.slice none 0 0), .int .i64 (0), .int .i64 (0), .int .i64 (0), .int .i64 (0), .int .i64 (0), .int .i64 (0), .bool false, .int .i64 (0), .int .i64 (0)] 62) :: (Blk b2 (e.cells de0).toArray 59) :: Rs) w120
  exact ⟨v83, b119, (by rw [hv' 6 (by decide)]; exact he87), hv, hS121⟩
 ·intro k123 vals w124 h127 h128 hW126 hA125
  obtain rfl : k123 = 2 := Nat.le_antisymm h128 h127
  obtain ⟨v83, b119, he87, he122, hS129⟩ := hW126
  have e130 := hA125 4 (by decide)
  refine obl rfl ?_
  have hbk134 := hS129.blk (i := 0) rfl
  have hS135 : Sep G W ((RwN ve27 L) :: (RwI v83 e.deps) :: (BkV b vt25 vp26 ve27 m28 m29) :: (RwT vt25 d.types) :: (RwP vp26 d.projs) :: (zF yi E1 m28 (zj d (L ++ [zR d L e]))) :: (zF yr E2 m29 (zI (L ++ [zR d L e]))) :: (Blk b18 #[.int .i64 ((zT d L e).2.1), .int .i64 ((zT d L e).2.2)] 57) :: (Blk b6 #[.int .i64 (0), .int .i64 (0), .int .i64 (0), (.slice none 0 0), .int .i64 (0), .int .i64 (0), .int .i64 (0), .int .i64 (0), .int .i64 (0), .int .i64 (0), .bool false, .int .i64 (0), .int .i64 (0)] 62) :: (Blk b2 (e.cells de0).toArray 59) :: Rs) w124 := hS129.sel 11 [5, 1, 2, 3, 4, 6, 7, 8, 9, 10] (Nat.le_add_left _ _) rfl rfl
  refine (yG (src := own) (bytes := 120) (x1 := (zR d L e)) hS135 el66 e130 he122 hbk134 (fun _ _ hN => ⟨_, rfl, RowE.soft hN, hek⟩) (by first | omega | (simp only [List.length_append, List.length_cons, List.length_nil, List.length_take, List.length_drop]; omega)) rfl ?_)
  intro v132 w131 hS133
  have hr136 := hS133.row (i := 0) rfl
  have hr136s : _ * 120 ≤ _ := hr136.2
  intro vals' hv hv'
  refine ⟨?_, trivial⟩
  show ∃ (v83 : Value) (b119 : Nat) (v132 : Value), (vals' 6 = (.agg (e.cells v83).toArray : Value)) ∧ (vals' 10 = ((.slice (some ⟨b119, 0, none⟩) 1 1) : Value)) ∧ (vals' 11 = (v132 : Value)) ∧ Sep G W ((RwN v132 (L ++ [(zR d L e)])) :: (BkV b vt25 vp26 ve27 m28 m29) :: (RwT vt25 d.types) :: (RwP vp26 d.projs) :: (zF yi E1 m28 (zj d (L ++ [zR d L e]))) :: (zF yr E2 m29 (zI (L ++ [zR d L e]))) :: (Blk b18 #[.int .i64 ((zT d L e).2.1), .int .i64 ((zT d L e).2.2)] 57) :: (Blk b6 #[.int .i64 (0), .int .i64 (0), .int .i64 (0), (.slice none 0 0), .int .i64 (0), .int .i64 (0), .int .i64 (0), .int .i64 (0), .int .i64 (0), .int .i64 (0), .bool false, .int .i64 (0), .int .i64 (0)] 62) :: (Blk b2 (e.cells de0).toArray 59) :: Rs) w131
  exact ⟨v83, b119, v132, (by rw [hv' 6 (by decide)]; exact he87), (by rw [hv' 10 (by decide)]; exact he122), hv, hS133⟩
 ·intro k234 vals w235 h238 h239 hW237 hA236
  obtain rfl : k234 = 3 := Nat.le_antisymm h239 h238
  obtain ⟨v83, b119, v132, he87, he122, he137, hS240⟩ := hW237
  have e241 := hA236 0 (by decide)
  refine obl rfl ?_
  exact zL (b := b) (o := 0) e241 (fun vals' hv _ => ⟨rfl, hv⟩)
 ·intro k242 vals w243 h246 h247 hW245 hA244
  obtain rfl : k242 = 3 := Nat.le_antisymm h247 h246
  obtain ⟨v83, b119, v132, he87, he122, he137, hS248⟩ := hW245
  have e249 := hA244 12 (by decide)
  refine obl rfl ?_
  exact Xe e249 (fun vals' hv _ => ⟨rfl, hv⟩)
 ·intro k154 vals w155 h158 h159 hW157 hA156
  obtain rfl : k154 = 3 := Nat.le_antisymm h159 h158
  obtain ⟨v83, b119, v132, he87, he122, he137, hS160⟩ := hW157
  have e161 := hA156 13 (by decide)
  refine obl rfl ?_
  have hr164 := hS160.row (i := 0) rfl
  have hr164s : _ * 120 ≤ _ := hr164.2
  refine (yK (v := v132) (c := [vt25, vp26, ve27, .map (some m28), .map (some m29)]) (c' := [vt25, vp26, v132, .map (some m28), .map (some m29)]) Tryd.sizeOf66 e161 he137 (hS160.blk (i := 1) rfl) hr164.1.one rfl rfl ?_)
  intro w162 hp163
  have hS165 := hS160.pt1 hp163
  intro vals' hv hv'
  refine ⟨?_, trivial⟩
  show ∃ (v83 : Value) (b119 : Nat) (v132 : Value), (vals' 6 = (.agg (e.cells v83).toArray : Value)) ∧ (vals' 10 = ((.slice (some ⟨b119, 0, none⟩) 1 1) : Value)) ∧ (vals' 11 = (v132 : Value)) ∧ Sep G W ((RwN v132 (L ++ [(zR d L e)])) :: (BkV b vt25 vp26 v132 m28 m29) :: (RwT vt25 d.types) :: (RwP vp26 d.projs) :: (zF yi E1 m28 (zj d (L ++ [zR d L e]))) :: (zF yr E2 m29 (zI (L ++ [zR d L e]))) :: (Blk b18 #[.int .i64 ((zT d L e).2.1), .int .i64 ((zT d L e).2.2)] 57) :: (Blk b6 #[.int .i64 (0), .int .i64 (0), .int .i64 (0), (.slice none 0 0), .int .i64 (0), .int .i64 (0), .int .i64 (0), .int .i64 (0), .int .i64 (0), .int .i64 (0), .bool false, .int .i64 (0), .int .i64 (0)] 62) :: (Blk b2 (e.cells de0).toArray 59) :: Rs) w162
  exact ⟨v83, b119, v132, (by rw [hv' 6 (by decide)]; exact he87), (by rw [hv' 10 (by decide)]; exact he122), (by rw [hv' 11 (by decide)]; exact he137), hS165⟩
 intro vals w250 hW251 hA252
 obtain ⟨v83, b119, v132, he87, he122, he137, hS253⟩ := hW251
 refine yh (kv := [(0, .pointer (some ⟨b, 0, none⟩)), (1, .agg (e.cells de0).toArray), (3, .pointer (some ⟨b2, 0, none⟩)), (4, .pointer (some ⟨b6, 0, none⟩)), (8, .pointer (some ⟨b, 0, none⟩)), (9, .agg (e.cells de0).toArray), (10, .agg (e.cells v9).toArray), (11, .tuple #[.bool ((zT d L e).1), .agg #[.int .i64 ((zT d L e).2.1), .int .i64 ((zT d L e).2.2)]]), (7, .tuple #[.bool ((zT d L e).1), .agg #[.int .i64 ((zT d L e).2.1), .int .i64 ((zT d L e).2.2)]]), (12, .bool ((zT d L e).1)), (13, .agg #[.int .i64 ((zT d L e).2.1), .int .i64 ((zT d L e).2.2)]), (6, .pointer (some ⟨b18, 0, none⟩)), (5, .bool ((zT d L e).1))]) ⟨rfl, rfl, rfl, rfl, rfl, rfl, rfl, rfl, rfl, rfl, rfl, rfl, rfl, trivial⟩ (fun ρw250 => ?_)
 refine zf ?_
 refine zd ?_
 refine zP ((fun TT pp0 pp1 pp2 pp3 pp4 pp5 pp6 pp7 => WF [fun vals wq => Sep G W (pp0 :: pp1 :: pp2 :: pp3 :: pp4 :: pp5 :: pp6 :: pp7 :: TT) wq, fun vals wq => ∃ (v269 : Value), (vals 1 = (.agg (e.cells v269).toArray : Value)) ∧ Sep G W ((RwI v269 e.deps) :: pp0 :: pp1 :: pp2 :: pp3 :: pp4 :: pp5 :: pp6 :: pp7 :: TT) wq, fun vals wq => ∃ (v269 : Value), (vals 1 = (.agg (e.cells v269).toArray : Value)) ∧ Sep G W ((RwI v269 e.deps) :: pp0 :: pp1 :: pp2 :: pp3 :: pp4 :: pp5 :: pp6 :: (Blk b6 ((zR d L e).cells v269).toArray 62) :: TT) wq]) ((Blk b2 (e.cells de0).toArray 59) :: Rs) (RwN v132 (L ++ [(zR d L e)])) (BkV b vt25 vp26 v132 m28 m29) (RwT vt25 d.types) (RwP vp26 d.projs) (zF yi E1 m28 (zj d (L ++ [zR d L e]))) (zF yr E2 m29 (zI (L ++ [zR d L e]))) (Blk b18 #[.int .i64 ((zT d L e).2.1), .int .i64 ((zT d L e).2.2)] 57) (Blk b6 #[.int .i64 (0), .int .i64 (0), .int .i64 (0), (.slice none 0 0), .int .i64 (0), .int .i64 (0), .int .i64 (0), .int .i64 (0), .int .i64 (0), .int .i64 (0), .bool false, .int .i64 (0), .int .i64 (0)] 62)) (AF [Vl 0 (.agg (e.cells de0).toArray), fun _ => True, Vl 2 (.bool ((zT d L e).1)), Vl 3 (.agg #[.int .i64 ((zT d L e).2.1), .int .i64 ((zT d L e).2.2)]), fun vals => ∀ (v269 : Value), vals 1 = (.agg (e.cells v269).toArray : Value) → vals 4 = (.agg ((zR d L e).cells v269).toArray : Value), fun _ => True]) [[], [0], [], [], [0, 1, 2, 3], [0, 1, 2, 3, 4]] [1, 5] [(0, 0), (0, 0), (0, 1), (0, 1), (1, 1), (1, 1)] (by kernel_rfl) (by kernel_rfl) (by kernel_rfl) rfl (by kernel_rfl) (by kernel_rfl) (fun _ h1 h2 h3 h4 _ => hS253.same h1 h2 h3 h4) ?_ (yg ⟨dA, dT, dA, dA, fun vals vals' hv h => fun v269 hq0 => (hv 4 (.inl rfl)).trans (h v269 ((hv 1 (.inr (by decide))).symm.trans hq0)), dT, trivial⟩) ⟨?_, ?_, ?_, ?_, ?_, ?_, trivial⟩ ?_
 ·intro k vals vals' w hv h
  have e : ∀ j ∈ ([1, 5] : List Nat), vals' j = vals j := hv
  match k, h with
  | 0, h => exact h
  | 1, h => exact (by simpa only [WF, List.getElem?_cons_zero, List.getElem?_cons_succ, e 1 (by decide)] using h)
  | 2, h => exact (by simpa only [WF, List.getElem?_cons_zero, List.getElem?_cons_succ, e 1 (by decide)] using h)
  | _ + 3, _ => trivial
 ·intro k308 vals w309 h312 h313 hW311 hA310
  obtain rfl : k308 = 0 := Nat.le_antisymm h313 h312
  have hS314 : Sep _ _ _ _ := hW311
  refine obl rfl ?_
  exact zl (k := 10) Tryd.isAgg59 Tryd.sizeOf59 rfl rfl (CellsAt.all (hS314.blk (i := 8) rfl)) (fun vals' hv _ => ⟨rfl, hv⟩)
 ·intro k261 vals w262 h265 h266 hW264 hA263
  obtain rfl : k261 = 0 := Nat.le_antisymm h266 h265
  have hS267 : Sep _ _ _ _ := hW264
  have e268 := hA263 0 (by decide)
  refine obl rfl ?_
  refine (zv (f := 60) (vals := [.agg (e.cells de0).toArray]) (cap := []) rfl (xj ⟨e268, trivial⟩) Tryd.call60 (ZY (e := e) hde0 oe hS267) ?_)
  rintro _ w270 ⟨v269, rfl, hS271⟩
  have hr272 := hS271.row (i := 0) rfl
  have hr272s : _ * 8 ≤ _ := hr272.2
  intro vals' hv hv'
  refine ⟨?_, trivial⟩
  show ∃ (v269 : Value), (vals' 1 = (.agg (e.cells v269).toArray : Value)) ∧ Sep G W ((RwI v269 e.deps) :: (RwN v132 (L ++ [(zR d L e)])) :: (BkV b vt25 vp26 v132 m28 m29) :: (RwT vt25 d.types) :: (RwP vp26 d.projs) :: (zF yi E1 m28 (zj d (L ++ [zR d L e]))) :: (zF yr E2 m29 (zI (L ++ [zR d L e]))) :: (Blk b18 #[.int .i64 ((zT d L e).2.1), .int .i64 ((zT d L e).2.2)] 57) :: (Blk b6 #[.int .i64 (0), .int .i64 (0), .int .i64 (0), (.slice none 0 0), .int .i64 (0), .int .i64 (0), .int .i64 (0), .int .i64 (0), .int .i64 (0), .int .i64 (0), .bool false, .int .i64 (0), .int .i64 (0)] 62) :: (Blk b2 (e.cells de0).toArray 59) :: Rs) w270
  exact ⟨v269, hv, hS271⟩
 ·intro k315 vals w316 h319 h320 hW318 hA317
  refine obl rfl ?_
  exact zb (v := .bool ((zT d L e).1)) rfl (fun vals' hv _ => ⟨rfl, hv⟩)
 ·intro k321 vals w322 h325 h326 hW324 hA323
  have hkk : k321 = 0 ∨ k321 = 1 := by have h1 : 0 ≤ k321 := h325; have h2 : k321 ≤ 1 := h326; omega
  rcases hkk with rfl | rfl
  ·skip
   have hS327 : Sep _ _ _ _ := hW324
   refine obl rfl ?_
   exact zl (k := 2) Tryd.isAgg57 Tryd.sizeOf57 rfl rfl (CellsAt.all (hS327.blk (i := 6) rfl)) (fun vals' hv _ => ⟨rfl, hv⟩)
  ·skip
   obtain ⟨v269, he273, hS328⟩ := hW324
   refine obl rfl ?_
   exact zl (k := 2) Tryd.isAgg57 Tryd.sizeOf57 rfl rfl (CellsAt.all (hS328.blk (i := 7) rfl)) (fun vals' hv _ => ⟨rfl, hv⟩)
 ·intro k329 vals w330 h333 h334 hW332 hA331
  obtain rfl : k329 = 1 := Nat.le_antisymm h334 h333
  obtain ⟨v269, he273, hS335⟩ := hW332
  have e336 := hA331 2 (by decide)
  have e337 := hA331 3 (by decide)
  refine obl rfl ?_
  refine zS (parts' := [(0, .agg (e.cells v269).toArray), (1, .bool ((zT d L e).1)), (2, .agg #[.int .i64 ((zT d L e).2.1), .int .i64 ((zT d L e).2.2)])]) (v := .agg ((zR d L e).cells v269).toArray) (xE ⟨rfl, he273, rfl, e336, rfl, e337, trivial⟩) (by simp [Instr.build, Instr.fill, go_sem, Ent.cells, Ev.cells, zR]) (fun vals' hv hv' => ⟨rfl, ?_⟩)
  intro v269q hq0
  rw [hv' 1 (by decide)] at hq0; cases he273.symm.trans hq0
  exact hv
 ·intro k296 vals w297 h300 h301 hW299 hA298
  obtain rfl : k296 = 1 := Nat.le_antisymm h301 h300
  obtain ⟨v269, he273, hS302⟩ := hW299
  have e303 : vals 4 = (.agg ((zR d L e).cells v269).toArray : Value) := hA298 4 (by decide) v269 he273
  refine obl rfl ?_
  have hr306 := hS302.row (i := 0) rfl
  have hr306s : _ * 8 ≤ _ := hr306.2
  refine (zy (v := .agg ((zR d L e).cells v269).toArray) (c' := ((zR d L e).cells v269).toArray) Tryd.sizeOf62 rfl e303 (hS302.blk (i := 8) rfl) (yj ⟨rfl, rfl, rfl, hr306.1.one, rfl, rfl, rfl, rfl, rfl, rfl, rfl, rfl, rfl, trivial⟩) (Nat.le_of_ble_eq_true rfl) rfl ?_)
  intro w304 hp305
  have hS307 := hS302.pt8 hp305
  intro vals' hv hv'
  refine ⟨?_, trivial⟩
  show ∃ (v269 : Value), (vals' 1 = (.agg (e.cells v269).toArray : Value)) ∧ Sep G W ((RwI v269 e.deps) :: (RwN v132 (L ++ [(zR d L e)])) :: (BkV b vt25 vp26 v132 m28 m29) :: (RwT vt25 d.types) :: (RwP vp26 d.projs) :: (zF yi E1 m28 (zj d (L ++ [zR d L e]))) :: (zF yr E2 m29 (zI (L ++ [zR d L e]))) :: (Blk b18 #[.int .i64 ((zT d L e).2.1), .int .i64 ((zT d L e).2.2)] 57) :: (Blk b6 ((zR d L e).cells v269).toArray 62) :: (Blk b2 (e.cells de0).toArray 59) :: Rs) w304
  exact ⟨v269, (by rw [hv' 1 (by decide)]; exact he273), hS307⟩
 intro vals w338 hW339 hA340
 obtain ⟨v269, he273, hS341⟩ := hW339
 refine yh (kv := [(0, .pointer (some ⟨b, 0, none⟩)), (1, .agg (e.cells de0).toArray), (3, .pointer (some ⟨b2, 0, none⟩)), (4, .pointer (some ⟨b6, 0, none⟩)), (8, .pointer (some ⟨b, 0, none⟩)), (9, .agg (e.cells de0).toArray), (10, .agg (e.cells v9).toArray), (11, .tuple #[.bool ((zT d L e).1), .agg #[.int .i64 ((zT d L e).2.1), .int .i64 ((zT d L e).2.2)]]), (7, .tuple #[.bool ((zT d L e).1), .agg #[.int .i64 ((zT d L e).2.1), .int .i64 ((zT d L e).2.2)]]), (12, .bool ((zT d L e).1)), (13, .agg #[.int .i64 ((zT d L e).2.1), .int .i64 ((zT d L e).2.2)]), (6, .pointer (some ⟨b18, 0, none⟩)), (5, .bool ((zT d L e).1))]) ⟨rfl, rfl, rfl, rfl, rfl, rfl, rfl, rfl, rfl, rfl, rfl, rfl, rfl, trivial⟩ (fun ρw338 => ?_)
 refine zf ?_
 refine zu ?_
 refine XJ (b := b6) Tryd.results28 Tryd.isAgg62 Tryd.sizeOf62 rfl rfl (CellsAt.all (hS341.blk (i := 8) rfl)) ?_
 have hS342 : Sep G W ((BkV b vt25 vp26 v132 m28 m29) :: (RwT vt25 d.types) :: (RwP vp26 d.projs) :: (RwN v132 (L ++ [(zR d L e)])) :: (zF yi E1 m28 (zj d (L ++ [zR d L e]))) :: (zF yr E2 m29 (zI (L ++ [zR d L e]))) :: (RwI v269 e.deps) :: (Blk b18 #[.int .i64 ((zT d L e).2.1), .int .i64 ((zT d L e).2.2)] 57) :: (Blk b6 ((zR d L e).cells v269).toArray 62) :: (Blk b2 (e.cells de0).toArray 59) :: Rs) w338 := hS341.sel 10 [2, 3, 4, 1, 5, 6, 0, 7, 8, 9] (Nat.le_add_left _ _) rfl rfl
 have hS343 : Sep G W ((ViewO b d (L ++ [zR d L e]) (L ++ [zR d L e])) :: (RwI v269 e.deps) :: (Blk b18 #[.int .i64 ((zT d L e).2.1), .int .i64 ((zT d L e).2.2)] 57) :: (Blk b6 ((zR d L e).cells v269).toArray 62) :: (Blk b2 (e.cells de0).toArray 59) :: Rs) w338 := ViewO.close (d := d) (L := (L ++ [zR d L e])) (M := (L ++ [zR d L e])) hS342
 have hS344 : Sep G W ((ViewO b d (L ++ [zR d L e]) (L ++ [zR d L e])) :: (RwI v269 e.deps) :: Rs) w338 := hS343.sel 5 [0, 1] (Nat.le_add_left _ _) rfl rfl
 refine ⟨v269, rfl, hS344⟩

theorem WX {G : Nat → Prop} {W w : World} {Rs : List HP} {b : Nat} {d : Dcl} {L : List Ent} {ty : Int} (hty : InR ty) {no : Int} (hno : InR no) (hS0 : Sep G W ((ViewO b d L L) :: Rs) w) : Ret Tryd.prog 32 [.pointer (some ⟨b, 0, none⟩), .int .i64 (ty), .int .i64 (no)] w (fun r w' => ∃ (v : Value), r = (.tuple #[.agg ((xn d (ty, no) L).cells v).toArray, .bool ((zj d L (ty, no)).isSome)] : Value) ∧ Sep G W ((ViewO b d L L) :: (RowE (α := Cel) own 42 v (stL d (ty, no) L)) :: Rs) w') := by
 refine zr (args := [.pointer (some ⟨b, 0, none⟩), .int .i64 (ty), .int .i64 (no)]) Tryd.func32 rfl rfl ?_
 refine zd ?_
 refine za (by kernel_rfl) (fun _ => ?_)
 refine st (zE Tryd.zeroValue68 ?_)
 intro w3 b2 hn1
 have hS4 := hS0.new hn1
 refine st (ze (v := .bool false) rfl ?_)
 refine zf ?_
 refine zd ?_
 refine za (by kernel_rfl) (fun _ => ?_)
 have hS5 := hS4.mv1
 obtain ⟨vt6, vp7, ve8, m9, m10, hS11⟩ := ViewO.open hS5
 have hS11t : Sep G W ((Blk b #[vt6, vp7, ve8, .map (some m9), .map (some m10)] 111) :: (RowE (α := Typ) own 33 vt6 d.types) :: (RowE (α := Prj) own 107 vp7 d.projs) :: (RowE (α := Ent) own 62 ve8 L) :: (zF yi E1 m9 (zj d L)) :: (zF yr E2 m10 (zI L)) :: (Blk b2 #[.int .i64 (0), (.slice none 0 0)] 68) :: Rs) w3 := hS11
 have hr12 := hS11t.row (i := 1) rfl
 have hr12s : _ * 24 ≤ _ := hr12.2
 have hr13 := hS11t.row (i := 2) rfl
 have hr13s : _ * 40 ≤ _ := hr13.2
 have hr14 := hS11t.row (i := 3) rfl
 have hr14s : _ * 120 ≤ _ := hr14.2
 have hS15 := hS11t.mv4
 obtain ⟨vs16, hvs17, hS18⟩ := hS15.mapoTake YX (ty, no)
 have hS21 := hS18.mv1
 obtain ⟨vc19, rfl, hS20⟩ := YL hS21 hvs17
 have hS20t : Sep G W ((RowE (α := Cel) own 42 vc19 (stL d (ty, no) L)) :: (xz yi E1 YX m9 (zj d L) (ty, no) (.agg #[.int .i64 ((zX (ty, no) L : Nat) : Int), vc19])) :: (Blk b #[vt6, vp7, ve8, .map (some m9), .map (some m10)] 111) :: (RowE (α := Typ) own 33 vt6 d.types) :: (RowE (α := Prj) own 107 vp7 d.projs) :: (RowE (α := Ent) own 62 ve8 L) :: (zF yr E2 m10 (zI L)) :: (Blk b2 #[.int .i64 (0), (.slice none 0 0)] 68) :: Rs) w3 := hS20
 have hr22 := hS20t.row (i := 0) rfl
 have hr22s : _ * 32 ≤ _ := hr22.2
 have hve9 := WQ (ty, no) L
 refine st (zb (v := .pointer (some ⟨b, 0, none⟩)) rfl ?_)
 refine st (zL (b := b) (o := 0) rfl ?_)
 refine st (Xv rfl ?_)
 refine st (zg (v := .map (some m9)) Tryd.isAgg108 rfl (zh (hS20t.blk (i := 2) rfl) rfl) ?_)
 refine st (zb (v := .int .i64 (ty)) rfl ?_)
 refine st (zb (v := .int .i64 (no)) rfl ?_)
 refine st (zS (parts' := [(0, .int .i64 (ty)), (1, .int .i64 (no))]) (v := .agg #[.int .i64 (ty), .int .i64 (no)]) rfl (by simp [Instr.build, Instr.fill, Ev.cells, go_sem, Mv.cells, Fld.cells, Typ.cells, Prj.cells, Dcl.cells, Cel.cells, AskR.cells, Ask.cells, CelS.cells, Ev.cells, Ent.cells, Sta.cells]) ?_)
 refine st (xV hS20t (i := 1) rfl K2 Tryd.underlying108 Tryd.zeroValue68 rfl rfl ?_)
 refine st (zb (v := .tuple #[.agg #[.int .i64 ((zX (ty, no) L : Nat) : Int), vc19], .bool (((zj d L) (ty, no)).isSome)]) rfl ?_)
 refine st (zH (vs := [.agg #[.int .i64 ((zX (ty, no) L : Nat) : Int), vc19], .bool (((zj d L) (ty, no)).isSome)]) (i := 0) (v := .agg #[.int .i64 ((zX (ty, no) L : Nat) : Int), vc19]) rfl rfl ?_)
 refine st (zH (vs := [.agg #[.int .i64 ((zX (ty, no) L : Nat) : Int), vc19], .bool (((zj d L) (ty, no)).isSome)]) (i := 1) (v := .bool (((zj d L) (ty, no)).isSome)) rfl rfl ?_)
 refine st (zE Tryd.zeroValue68 ?_)
 intro w25 b24 hn23
 have hS26 := hS20t.new hn23
 refine stn (zy (v := .agg #[.int .i64 ((zX (ty, no) L : Nat) : Int), vc19]) (c' := #[.int .i64 ((zX (ty, no) L : Nat) : Int), vc19]) Tryd.sizeOf68 rfl rfl (hS26.blk (i := 0) rfl) (yj ⟨rfl, hr22.1.one, trivial⟩) (Nat.le_of_ble_eq_true rfl) rfl ?_)
 intro w27 hp28
 have ok29 : Sta.Ok (⟨((zX (ty, no) L : Nat) : Int), stL d (ty, no) L⟩ : Sta) := ⟨(show InR (((zX (ty, no) L : Nat) : Int)) from (by omega))⟩
 have hS30 := hS26.pt0 hp28
 refine st (ze (v := .bool (((zj d L) (ty, no)).isSome)) rfl ?_)
 refine zf ?_
 refine zd ?_
 refine za (by kernel_rfl) (fun _ => ?_)
 refine st (zl (k := 2) Tryd.isAgg68 Tryd.sizeOf68 rfl rfl (CellsAt.all (hS30.blk (i := 0) rfl)) ?_)
 have hS31 := hS30.mv1
 obtain ⟨G32, hA34, hB35, hS36, hk37⟩ := hS31.lend
 have hrd38 := RowE.rd hA34
 have hrd38s : _ * 32 ≤ _ := hrd38.small
 refine st (zv (f := 63) (vals := [.agg ((⟨((zX (ty, no) L : Nat) : Int), stL d (ty, no) L⟩ : Sta).cells vc19).toArray]) (cap := []) rfl rfl Tryd.call63 (Uj (x := (⟨((zX (ty, no) L : Nat) : Int), stL d (ty, no) L⟩ : Sta)) hrd38 ok29 hS36) ?_)
 rintro _ w40 ⟨v39, rfl, hS41⟩
 have hr42 := hS41.row (i := 0) rfl
 have hr42s : _ * 32 ≤ _ := hr42.2
 have hS43 := hk37 _ _ hS41
 refine st (zb (v := .bool (((zj d L) (ty, no)).isSome)) rfl ?_)
 refine stn (zy (v := .agg ((⟨((zX (ty, no) L : Nat) : Int), stL d (ty, no) L⟩ : Sta).cells v39).toArray) (c' := ((⟨((zX (ty, no) L : Nat) : Int), stL d (ty, no) L⟩ : Sta).cells v39).toArray) Tryd.sizeOf68 rfl rfl (hS43.blk (i := 9) rfl) (yj ⟨rfl, hr42.1.one, trivial⟩) (Nat.le_of_ble_eq_true rfl) rfl ?_)
 intro w44 hp45
 have hS46 := hS43.pt9 hp45
 refine st (ze (v := .bool (((zj d L) (ty, no)).isSome)) rfl ?_)
 refine zf ?_
 refine zu ?_
 refine YU (b := b2) Tryd.results32 Tryd.isAgg68 Tryd.sizeOf68 rfl rfl (CellsAt.all (hS46.blk (i := 9) rfl)) (show _ = (.bool (((zj d L) (ty, no)).isSome) : Value) from rfl) ?_
 have hS47 : Sep G W ((ZG E1 (.agg #[.int .i64 ((zX (ty, no) L : Nat) : Int), vc19]) ((zj d L) (ty, no))) :: (RowE (α := Cel) own 42 v39 ((⟨((zX (ty, no) L : Nat) : Int), stL d (ty, no) L⟩ : Sta).cls)) :: (Blk b24 ((⟨((zX (ty, no) L : Nat) : Int), stL d (ty, no) L⟩ : Sta).cells vc19).toArray 68) :: (xz yi E1 YX m9 (zj d L) (ty, no) (.agg #[.int .i64 ((zX (ty, no) L : Nat) : Int), vc19])) :: (Blk b #[vt6, vp7, ve8, .map (some m9), .map (some m10)] 111) :: (RowE (α := Typ) own 33 vt6 d.types) :: (RowE (α := Prj) own 107 vp7 d.projs) :: (RowE (α := Ent) own 62 ve8 L) :: (zF yr E2 m10 (zI L)) :: (Blk b2 ((⟨((zX (ty, no) L : Nat) : Int), stL d (ty, no) L⟩ : Sta).cells v39).toArray 68) :: Rs) w44 := Wi hS46
 have hS48 := hS47.mv3
 have hS49 : Sep G W ((zF yi E1 m9 (zj d L)) :: (RowE (α := Cel) own 42 v39 ((⟨((zX (ty, no) L : Nat) : Int), stL d (ty, no) L⟩ : Sta).cls)) :: (Blk b24 ((⟨((zX (ty, no) L : Nat) : Int), stL d (ty, no) L⟩ : Sta).cells vc19).toArray 68) :: (Blk b #[vt6, vp7, ve8, .map (some m9), .map (some m10)] 111) :: (RowE (α := Typ) own 33 vt6 d.types) :: (RowE (α := Prj) own 107 vp7 d.projs) :: (RowE (α := Ent) own 62 ve8 L) :: (zF yr E2 m10 (zI L)) :: (Blk b2 ((⟨((zX (ty, no) L : Nat) : Int), stL d (ty, no) L⟩ : Sta).cells v39).toArray 68) :: Rs) w44 := hS48.mapoPut
 have hS50 : Sep G W ((Blk b #[vt6, vp7, ve8, .map (some m9), .map (some m10)] 111) :: (RowE (α := Typ) own 33 vt6 d.types) :: (RowE (α := Prj) own 107 vp7 d.projs) :: (RowE (α := Ent) own 62 ve8 L) :: (zF yi E1 m9 (zj d L)) :: (zF yr E2 m10 (zI L)) :: (RowE (α := Cel) own 42 v39 ((⟨((zX (ty, no) L : Nat) : Int), stL d (ty, no) L⟩ : Sta).cls)) :: (Blk b24 ((⟨((zX (ty, no) L : Nat) : Int), stL d (ty, no) L⟩ : Sta).cells vc19).toArray 68) :: (Blk b2 ((⟨((zX (ty, no) L : Nat) : Int), stL d (ty, no) L⟩ : Sta).cells v39).toArray 68) :: Rs) w44 := hS49.sel 9 [3, 4, 5, 6, 0, 7, 1, 2, 8] (Nat.le_add_left _ _) rfl rfl
 have hS51 : Sep G W ((ViewO b d L L) :: (RowE (α := Cel) own 42 v39 ((⟨((zX (ty, no) L : Nat) : Int), stL d (ty, no) L⟩ : Sta).cls)) :: (Blk b24 ((⟨((zX (ty, no) L : Nat) : Int), stL d (ty, no) L⟩ : Sta).cells vc19).toArray 68) :: (Blk b2 ((⟨((zX (ty, no) L : Nat) : Int), stL d (ty, no) L⟩ : Sta).cells v39).toArray 68) :: Rs) w44 := ViewO.close (d := d) (L := L) (M := L) hS50
 have hS52 : Sep G W ((ViewO b d L L) :: (RowE (α := Cel) own 42 v39 ((⟨((zX (ty, no) L : Nat) : Int), stL d (ty, no) L⟩ : Sta).cls)) :: Rs) w44 := hS51.sel 4 [0, 1] (Nat.le_add_left _ _) rfl rfl
 refine ⟨v39, rfl, hS52⟩

theorem Ut {d : Option Tmp} {ty : TypeId} {pos : String} {af : Array Edge} {g : Option (Nat × Bool)} {σ : Env} {w : World} {K : Value → World → Prop} {x : Operand} {b o : Nat} (hx : ev σ x = .pointer (some ⟨b, o, none⟩)) (h : K (.pointer (some ⟨b, o + 0, none⟩)) w) : opV Tryd.prog ⟨d, .fieldAddr 62 x 0, ty, pos, af, g⟩ σ w K := zt Tryd.underlying62 rfl rfl (fun w => ⟨9, Tryd.sizeOf59 w⟩) hx h
theorem Zc {G : Nat → Prop} {W w : World} {Rs : List HP} {b : Nat} {d : Dcl} {L : List Ent} (hS0 : Sep G W ((ViewO b d L L) :: Rs) w) : Ret Tryd.prog 36 [.pointer (some ⟨b, 0, none⟩)] w (fun r w' => ∃ (v : Value), r = (v : Value) ∧ Sep G W ((ViewO b d L L) :: (RowE (α := Ent) own 62 v L) :: Rs) w') := by
 refine zr (args := [.pointer (some ⟨b, 0, none⟩)]) Tryd.func36 rfl rfl ?_
 refine zd ?_
 refine za (by kernel_rfl) (fun _ => ?_)
 refine st (ze (v := (.slice none 0 0)) rfl ?_)
 refine zf ?_
 refine zd ?_
 obtain ⟨vt1, vp2, ve3, m4, m5, hS6⟩ := ViewO.open hS0
 have hS6t : Sep G W ((Blk b #[vt1, vp2, ve3, .map (some m4), .map (some m5)] 111) :: (RowE (α := Typ) own 33 vt1 d.types) :: (RowE (α := Prj) own 107 vp2 d.projs) :: (RowE (α := Ent) own 62 ve3 L) :: (zF yi E1 m4 (zj d L)) :: (zF yr E2 m5 (zI L)) :: Rs) w := hS6
 have hr7 := hS6t.row (i := 1) rfl
 have hr7s : _ * 24 ≤ _ := hr7.2
 have hr8 := hS6t.row (i := 2) rfl
 have hr8s : _ * 40 ≤ _ := hr8.2
 have hr9 := hS6t.row (i := 3) rfl
 have hr9s : _ * 120 ≤ _ := hr9.2
 have hS10 := hS6t.mv3
 obtain ⟨G11, hA13, hB14, hS15, hk16⟩ := hS10.lend
 have hrd17 := RowE.rd hA13
 have hrd17s : _ * 120 ≤ _ := hrd17.small
 refine za (by kernel_rfl) (fun _ => ?_)
 refine st (zb (v := .pointer (some ⟨b, 0, none⟩)) rfl ?_)
 refine st (zL (b := b) (o := 0) rfl ?_)
 refine st (Xe rfl ?_)
 refine st (zg (v := ve3) Tryd.isAgg66 rfl (zh (hS15.blk (i := 0) rfl) rfl) ?_)
 refine st (zv (f := 65) (vals := [ve3]) (cap := []) rfl rfl Tryd.call65 (Wu (l := L) (vl := ve3) hrd17 hS15) ?_)
 rintro v18 w19 ⟨_, rfl, hS20⟩
 have hr21 := hS20.row (i := 0) rfl
 have hr21s : _ * 120 ≤ _ := hr21.2
 refine st (ze (v := v18) rfl ?_)
 refine zf ?_
 refine zd ?_
 refine zd ?_
 refine za (by kernel_rfl) (fun _ => ?_)
 refine st (zb (v := v18) rfl ?_)
 refine st (zJ (n := L.length) Tryd.underlying66 rfl hr21.1 ?_)
 refine st (zb (v := .int .i64 (0)) rfl ?_)
 refine zf ?_
 refine zx ?_
 have hS22 := hS20.toMix
 refine yn (fun mq σ wq => ∃ (k : Nat) (ρ : Env), mq = L.length - k ∧ σ = yp ρ [(0, .pointer (some ⟨b, 0, none⟩)), (2, (.slice none 0 0)), (3, v18), (11, .int .i64 ((L.length : Nat) : Int)), (12, .int .i64 ((k : Nat) : Int))] ∧ (k ≤ L.length) ∧ Sep G11 w ((RowE (α := Bool × Ent) (mix (α := Ent) G11 w) 62 v18 (xk k L)) :: (Blk b #[vt1, vp2, ve3, .map (some m4), .map (some m5)] 111) :: (RowE (α := Typ) own 33 vt1 d.types) :: (RowE (α := Prj) own 107 vp2 d.projs) :: (zF yi E1 m4 (zj d L)) :: (zF yr E2 m5 (zI L)) :: Rs) wq) ⟨0, _, rfl, zp ⟨rfl, rfl, rfl, rfl, rfl, trivial⟩, Nat.zero_le _, hS22⟩ ?_
 rintro m24 σ25 w23 ⟨k, ρl1, rfl, rfl, hkk, hS26⟩
 have hr27 := hS26.row (i := 0) rfl
 rw [xb] at hr27
 refine zd ?_
 refine za (by kernel_rfl) (fun _ => ?_)
 refine st (zN (k := .i64) (a := ((k : Nat) : Int)) (b := ((L.length : Nat) : Int)) rfl rfl ?_)
 refine zf ?_
 refine zd ?_
 cases hc28 : decide (((k : Nat) : Int) < ((L.length : Nat) : Int))
 ·skip
  have hc28 := of_decide_eq_false hc28
  have hS29 : Sep G11 w ((RowE (α := Ent) own 62 v18 L) :: (Blk b #[vt1, vp2, ve3, .map (some m4), .map (some m5)] 111) :: (RowE (α := Typ) own 33 vt1 d.types) :: (RowE (α := Prj) own 107 vp2 d.projs) :: (zF yi E1 m4 (zj d L)) :: (zF yr E2 m5 (zI L)) :: Rs) w23 := hS26.ofMix (by omega)
  have hr30 := hS29.row (i := 0) rfl
  have hr30s : _ * 120 ≤ _ := hr30.2
  refine zo rfl ?_
  refine ym ?_
  refine yd ?_
  refine zd ?_
  refine za (by kernel_rfl) (fun _ => ?_)
  refine st (zb (v := v18) rfl ?_)
  refine st (ze (v := v18) rfl ?_)
  refine zf ?_
  refine zu ?_
  refine ya Tryd.results36 (show _ = (v18 : Value) from rfl) ?_
  have hS31 := hk16 _ _ hS29
  have hS32 : Sep G W ((Blk b #[vt1, vp2, ve3, .map (some m4), .map (some m5)] 111) :: (RowE (α := Typ) own 33 vt1 d.types) :: (RowE (α := Prj) own 107 vp2 d.projs) :: (RowE (α := Ent) own 62 ve3 L) :: (zF yi E1 m4 (zj d L)) :: (zF yr E2 m5 (zI L)) :: (RowE (α := Ent) own 62 v18 L) :: Rs) w23 := hS31.sel 7 [2, 3, 4, 0, 5, 6, 1] (Nat.le_add_left _ _) rfl rfl
  have hS33 : Sep G W ((ViewO b d L L) :: (RowE (α := Ent) own 62 v18 L) :: Rs) w23 := ViewO.close (d := d) (L := L) (M := L) hS32
  refine ⟨v18, rfl, hS33⟩
 ·skip
  have hc28 := of_decide_eq_true hc28
  refine zq rfl ?_
  refine zw ?_
  refine zd ?_
  refine zx ?_
  refine zd ?_
  refine za (by kernel_rfl) (fun _ => ?_)
  refine st (zb (v := .int .i64 ((k : Nat) : Int)) rfl ?_)
  refine st (ze (v := .int .i64 ((k : Nat) : Int)) rfl ?_)
  refine zf ?_
  refine za (by kernel_rfl) (fun _ => ?_)
  refine st (zb (v := v18) rfl ?_)
  refine st (zb (v := .int .i64 ((k : Nat) : Int)) rfl ?_)
  refine st (zb (v := v18) rfl ?_)
  refine st (zb (v := .int .i64 ((k : Nat) : Int)) rfl ?_)
  have hi34 : k < L.length := (by first | omega | (simp only [lens]; omega))
  refine st (zm (k := 13) (i := k) Tryd.underlying66 Tryd.sizeOf62 rfl hr27.1 rfl hi34 ?_)
  refine st (Ut rfl ?_)
  have hi36 : k < L.length := (by first | omega | (simp only [lens]; omega))
  obtain ⟨_, hce35, de35_0, rfl, hde35_0, hoke35⟩ := hS26.mixAt (i := 0) (j := k) rfl (Nat.le_refl _) hi36
  rw [← zk default hi36] at hce35 hde35_0 hoke35
  refine st (zl (k := 10) (cs := [.int .i64 ((L.getD k default).ev.origin), .int .i64 ((L.getD k default).ev.seq), .int .i64 ((L.getD k default).ev.lam), de35_0, .int .i64 ((L.getD k default).ev.typ), .int .i64 ((L.getD k default).ev.agg), .int .i64 ((L.getD k default).ev.field), .int .i64 ((L.getD k default).ev.op), .int .i64 ((L.getD k default).ev.arg), .int .i64 ((L.getD k default).ev.key)]) Tryd.isAgg59 Tryd.sizeOf59 rfl rfl (CellsAt.sub hce35 0 (cs2 := [.int .i64 ((L.getD k default).ev.origin), .int .i64 ((L.getD k default).ev.seq), .int .i64 ((L.getD k default).ev.lam), de35_0, .int .i64 ((L.getD k default).ev.typ), .int .i64 ((L.getD k default).ev.agg), .int .i64 ((L.getD k default).ev.field), .int .i64 ((L.getD k default).ev.op), .int .i64 ((L.getD k default).ev.arg), .int .i64 ((L.getD k default).ev.key)]) rfl) ?_)
  refine st (zv (f := 60) (vals := [.agg (((L.getD k default).ev).cells de35_0).toArray]) (cap := []) rfl rfl Tryd.call60 (ZY (e := ((L.getD k default).ev)) hde35_0 hoke35.ev hS26) ?_)
  rintro _ w38 ⟨v37, rfl, hS39⟩
  have hr40 := hS39.row (i := 0) rfl
  have hr40s : _ * 8 ≤ _ := hr40.2
  have hi41 : k < L.length := (by first | omega | (simp only [lens]; omega))
  refine st (zm (k := 13) (i := k) Tryd.underlying66 Tryd.sizeOf62 rfl hr27.1 rfl hi41 ?_)
  refine st (Ut rfl ?_)
  have hS43 := hS39.mv1
  have hi45 : k < L.length := (by first | omega | (simp only [lens]; omega))
  refine stn (ZH (α := Ent) (j := k) (o := 0) (u := .agg (((L.getD k default).ev).cells v37).toArray) (us := ((L.getD k default).ev).cells v37) hS43 Tryd.sizeOf59 hi45 rfl rfl rfl (Nat.le_of_ble_eq_true rfl) (yj ⟨rfl, rfl, rfl, hr40.1.one, rfl, rfl, rfl, rfl, rfl, rfl, trivial⟩) (fun w f cs0 hr hN => (by obtain ⟨d, rfl, hd, hok⟩ := hr; rw [zk default hi45]; exact ⟨_, rfl, (by rw [← zk default hi45]; exact RowE.soft hN), hok⟩)) ?_)
  intro w42 hS46
  refine zf ?_
  refine za (by kernel_rfl) (fun _ => ?_)
  have hr47 : InR ((k + 1 : Nat) : Int) := by first | omega | (simp only [lens]; omega)
  refine st (ye (r := ((k + 1 : Nat) : Int)) (k := .i64) (a := ((k : Nat) : Int)) (b := 1) rfl rfl (by rw [show (((k : Nat) : Int) + 1 : Int) = ((k + 1 : Nat) : Int) by first | omega | (simp only [lens]; omega)]; exact zQ hr47) ?_)
  refine st (zb (v := .int .i64 ((k + 1 : Nat) : Int)) rfl ?_)
  refine zf ?_
  exact ⟨_, by omega, k + 1, _, rfl, zp ⟨rfl, rfl, rfl, rfl, rfl, trivial⟩, by omega, hS46⟩

theorem WN {G : Nat → Prop} {W w : World} {Rs : List HP} {d : Dcl} {dd0 : Value} (hdd0 : RdS W G dd0 d.types) {dd1 : Value} (hdd1 : RdS W G dd1 d.projs) (od : d.Ok) {vl : Value} {l : List Ev} (hl : RdS W G vl l) (hKN : RdS W G (.slice (some ⟨0, 0, none⟩) 6 6) kindsL) (hS0 : Sep G W Rs w) (hd : DclOk d) (hfew : l.length ≤ 1000000) : Ret Tryd.prog 38 [.agg (d.cells dd0 dd1).toArray, vl] w (fun r w' => ∃ (b : Nat), r = (.pointer (some ⟨b, 0, none⟩) : Value) ∧ Sep G W ((ViewO b d (yM d l) (yM d l)) :: Rs) w') := by
 have hdd0s : _ * 24 ≤ _ := hdd0.small
 have hdd1s : _ * 40 ≤ _ := hdd1.small
 have hls : _ * 96 ≤ _ := hl.small
 have hKNs : _ * 8 ≤ _ := hKN.small
 refine zr (args := [.agg (d.cells dd0 dd1).toArray, vl]) Tryd.func38 rfl rfl ?_
 refine zd ?_
 refine za (by kernel_rfl) (fun _ => ?_)
 refine st (yb (v := .agg (d.cells dd0 dd1).toArray) rfl ?_)
 intro w3 b2 hn1
 have hS4 := hS0.new hn1
 refine st (ze (v := .pointer none) rfl ?_)
 refine zf ?_
 refine zd ?_
 refine za (by kernel_rfl) (fun _ => ?_)
 refine st (zl (k := 2) Tryd.isAgg25 Tryd.sizeOf25 rfl rfl (CellsAt.all (hS4.blk (i := 0) rfl)) ?_)
 refine st (zv (f := 24) (vals := [.agg (d.cells dd0 dd1).toArray]) (cap := []) rfl rfl Tryd.call24 (Qv (d := d) hdd0 hdd1 od hS4) ?_)
 rintro _ w6 ⟨b5, rfl, hS7⟩
 refine st (ze (v := .pointer (some ⟨b5, 0, none⟩)) rfl ?_)
 refine zf ?_
 refine zd ?_
 refine zd ?_
 refine za (by kernel_rfl) (fun _ => ?_)
 refine st (zb (v := vl) rfl ?_)
 refine st (zJ (n := l.length) Tryd.underlying47 rfl hl.sl ?_)
 refine st (zb (v := .int .i64 (0)) rfl ?_)
 refine zf ?_
 refine zx ?_
 refine yn (fun mq σ wq => ∃ (k : Nat) (ρ : Env), mq = l.length - k ∧ σ = yp ρ [(2, .pointer (some ⟨b2, 0, none⟩)), (5, .pointer (some ⟨b5, 0, none⟩)), (10, vl), (11, .int .i64 ((l.length : Nat) : Int)), (12, .int .i64 ((k : Nat) : Int))] ∧ (k ≤ l.length) ∧ Sep G W ((ViewO b5 d (yM d (l.take k)) (yM d (l.take k))) :: (Blk b2 (d.cells dd0 dd1).toArray 25) :: Rs) wq) ⟨0, _, rfl, zp ⟨rfl, rfl, rfl, rfl, rfl, trivial⟩, Nat.zero_le _, hS7⟩ ?_
 rintro m9 σ10 w8 ⟨k, ρl1, rfl, rfl, hkk, hS11⟩
 refine zd ?_
 refine za (by kernel_rfl) (fun _ => ?_)
 refine st (zN (k := .i64) (a := ((k : Nat) : Int)) (b := ((l.length : Nat) : Int)) rfl rfl ?_)
 refine zf ?_
 refine zd ?_
 cases hc12 : decide (((k : Nat) : Int) < ((l.length : Nat) : Int))
 ·skip
  have hc12 := of_decide_eq_false hc12
  refine zo rfl ?_
  refine ym ?_
  refine yd ?_
  refine zd ?_
  refine za (by kernel_rfl) (fun _ => ?_)
  refine st (zb (v := .pointer (some ⟨b5, 0, none⟩)) rfl ?_)
  refine st (ze (v := .pointer (some ⟨b5, 0, none⟩)) rfl ?_)
  refine zf ?_
  refine zu ?_
  refine ya Tryd.results38 (show _ = (.pointer (some ⟨b5, 0, none⟩) : Value) from rfl) ?_
  have hS13 : Sep G W ((ViewO b5 d (yM d (l.take k)) (yM d (l.take k))) :: Rs) w8 := hS11.sel 2 [0] (Nat.le_add_left _ _) rfl rfl
  have hkn : k = l.length := by omega
  rw [hkn, List.take_length] at hS13
  refine ⟨b5, rfl, hS13⟩
 ·skip
  have hc12 := of_decide_eq_true hc12
  refine zq rfl ?_
  refine zw ?_
  refine zd ?_
  refine zx ?_
  refine zd ?_
  refine za (by kernel_rfl) (fun _ => ?_)
  have hi14 : k < l.length := (by first | omega | (simp only [lens]; omega))
  refine st (zm (k := 10) (i := k) Tryd.underlying47 Tryd.sizeOf59 rfl hl.sl rfl hi14 ?_)
  have hi16 : k < l.length := (by first | omega | (simp only [lens]; omega))
  obtain ⟨hce15, hde15_0, hoke15⟩ := hl.ev hi16
  rw [← zk default hi16] at hce15 hde15_0 hoke15
  have hsm17 : ((l.getD k default).deps).length * 8 ≤ 140737488355328 := hde15_0.small
  have hcw18 := hS11.cells hce15 (hl.foot (ne_of_lt hi16))
  refine st (zl (k := 10) Tryd.isAgg59 Tryd.sizeOf59 rfl rfl hcw18 ?_)
  refine st (zE Tryd.zeroValue59 ?_)
  intro w21 b20 hn19
  have hS22 := hS11.new hn19
  refine stn (zy (v := .agg ((l.getD k default).cells (zi W (sb vl) (so vl + k * 10 + 3))).toArray) (c' := ((l.getD k default).cells (zi W (sb vl) (so vl + k * 10 + 3))).toArray) Tryd.sizeOf59 rfl rfl (hS22.blk (i := 0) rfl) (yj ⟨rfl, rfl, rfl, hde15_0.sl.one, rfl, rfl, rfl, rfl, rfl, rfl, trivial⟩) (Nat.le_of_ble_eq_true rfl) rfl ?_)
  intro w23 hp24
  have hS25 := hS22.pt0 hp24
  refine zf ?_
  refine za (by kernel_rfl) (fun _ => ?_)
  refine st (zb (v := .pointer (some ⟨b5, 0, none⟩)) rfl ?_)
  refine st (zl (k := 10) Tryd.isAgg59 Tryd.sizeOf59 rfl rfl (CellsAt.all (hS25.blk (i := 0) rfl)) ?_)
  have hS26 := hS25.mv1
  refine st (zv (f := 28) (vals := [.pointer (some ⟨b5, 0, none⟩), .agg ((l.getD k default).cells (zi W (sb vl) (so vl + k * 10 + 3))).toArray]) (cap := []) rfl rfl Tryd.call28 (D_Add (e := (l.getD k default)) hde15_0 hoke15 hKN hS26 (hd) ((Inv.run hd _)) ((UD hfew))) ?_)
  rintro _ w28 ⟨v27, rfl, hS29⟩
  have hr30 := hS29.row (i := 1) rfl
  have hr30s : _ * 8 ≤ _ := hr30.2
  refine zf ?_
  refine za (by kernel_rfl) (fun _ => ?_)
  have hr31 : InR ((k + 1 : Nat) : Int) := by first | omega | (simp only [lens]; omega)
  refine st (ye (r := ((k + 1 : Nat) : Int)) (k := .i64) (a := ((k : Nat) : Int)) (b := 1) rfl rfl (by rw [show (((k : Nat) : Int) + 1 : Int) = ((k + 1 : Nat) : Int) by first | omega | (simp only [lens]; omega)]; exact zQ hr31) ?_)
  refine st (zb (v := .int .i64 ((k + 1 : Nat) : Int)) rfl ?_)
  refine zf ?_
  have hS32 : Sep G W ((ViewO b5 d ((yM d (l.take k)) ++ [zR d (yM d (l.take k)) (l.getD k default)]) ((yM d (l.take k)) ++ [zR d (yM d (l.take k)) (l.getD k default)])) :: (Blk b2 (d.cells dd0 dd1).toArray 25) :: Rs) w28 := hS29.sel 4 [0, 3] (Nat.le_add_left _ _) rfl rfl
  have hL33 : (yM d (l.take (k + 1))) = ((yM d (l.take k)) ++ [zR d (yM d (l.take k)) (l.getD k default)]) := (Vv (by omega))
  rw [← hL33] at hS32
  exact ⟨_, by omega, k + 1, _, rfl, zp ⟨rfl, rfl, rfl, rfl, rfl, trivial⟩, by omega, hS32⟩

end Go.Proofs.YtlblilbmpdejgaaDoor
/- Steps of the proofs of this seat: part F6. -/
set_option maxRecDepth 8000
set_option maxHeartbeats 4000000
namespace Go.Proofs.YtlblilbmpdejgaaDoor
open Go.Proofs Go.RowKit

def Yt (e : Ev) (n : Int) : Prop := (0 ≤ e.origin ∧ e.origin < n ∧ (e.deps.length : Int) = n ∧ 1 ≤ e.seq) ∧ ∀ i, i < e.deps.length → 0 ≤ e.deps.getD i 0
theorem VM {α : Type} [Inhabited α] {P : α → Prop} {l : List α} {x : α} (h : ∀ i, i < l.length → P (l.getD i default)) (hx : P x) : ∀ i, i < (l ++ [x]).length → P ((l ++ [x]).getD i default) := by
  intro i hi
  rcases Nat.lt_or_ge i l.length with h1 | h1
  · have e : (l ++ [x]).getD i default = l.getD i default := by rw [List.getD_eq_getElem?_getD, List.getD_eq_getElem?_getD, List.getElem?_append_left h1]
    rw [e]; exact h i h1
  · have e : i = l.length := by rw [List.length_append, List.length_singleton] at hi; omega
    subst e
    rw [List.getD_eq_getElem?_getD, List.getElem?_append_right (Nat.le_refl _), Nat.sub_self]; exact hx
theorem UZ {G : Nat → Prop} {W w : World} {Rs : List HP} {d : Dcl} {dd0 : Value} (hdd0 : RdS W G dd0 d.types) {dd1 : Value} (hdd1 : RdS W G dd1 d.projs) (od : d.Ok) (hS0 : Sep G W Rs w) : Ret Tryd.prog 20 [.agg (d.cells dd0 dd1).toArray] w (fun r w' => ∃ (b : Bool), r = (.bool b : Value) ∧ (b = true → DclOk d) ∧ Sep G W Rs w') := by
 have hdd0s : _ * 24 ≤ _ := hdd0.small
 have hdd1s : _ * 40 ≤ _ := hdd1.small
 refine zr (args := [.agg (d.cells dd0 dd1).toArray]) Tryd.func20 rfl rfl ?_
 refine zd ?_
 refine za (by kernel_rfl) (fun _ => ?_)
 refine st (yb (v := .agg (d.cells dd0 dd1).toArray) rfl ?_)
 intro w3 b2 hn1
 have hS4 := hS0.new hn1
 refine st (ze (v := .bool false) rfl ?_)
 refine zf ?_
 refine zd ?_
 refine zD (by kernel_rfl) ?_
 refine st (zl (k := 2) Tryd.isAgg25 Tryd.sizeOf25 rfl rfl (CellsAt.all (hS4.blk (i := 0) rfl)) ?_)
 refine st (zv (f := 45) (vals := [.agg (d.cells dd0 dd1).toArray]) (cap := []) rfl rfl Tryd.call45 (Qe (d := d) hdd0 hdd1 od hS4) ?_)
 rintro _ w6 ⟨b5, rfl, hS7⟩
 refine st (yJ (a := b5) rfl ?_)
 refine st (zb (v := .bool (!b5)) rfl ?_)
 refine stc (V := .agg (d.cells dd0 dd1).toArray) rfl rfl (fun hb8 => ?_) ?_
 ·have hl9 := hb8
  try simp only [zn] at hl9
  exact zl (k := 2) Tryd.isAgg25 Tryd.sizeOf25 rfl rfl (CellsAt.all (hS7.blk (i := 0) rfl)) ⟨rfl, rfl⟩
 cases hg10 : !b5
 ·skip
  have hg10r := hg10
  try simp only [zn] at hg10
  refine stx rfl rfl ?_
  refine stx rfl rfl ?_
  refine st (zV (v := .bool false) rfl rfl ?_)
  refine st (ze (v := .bool false) rfl ?_)
  refine zf ?_
  refine zu ?_
  refine ya Tryd.results20 (show _ = (.bool false : Value) from rfl) ?_
  have hS11 : Sep G W Rs w6 := hS7.sel 1 [] (Nat.le_add_left _ _) rfl rfl
  refine ⟨false, rfl, ?_, hS11⟩
  intro h9
  cases h9
 ·skip
  have hg10r := hg10
  try simp only [zn] at hg10
  refine sty rfl rfl (zv (f := 46) (vals := [.agg (d.cells dd0 dd1).toArray]) (cap := []) rfl rfl Tryd.call46 (UF (d := d) hdd0 hdd1 od hS7) ?_)
  rintro _ w15 ⟨e12, rfl, hin13, hok14, hS16⟩
  refine sty rfl rfl (yu (k := .i64) (a := e12) (b := 0) rfl rfl ?_)
  refine st (zU (v := .bool (decide (e12 = 0))) rfl rfl ?_)
  refine st (ze (v := .bool (decide (e12 = 0))) rfl ?_)
  refine zf ?_
  refine zu ?_
  refine ya Tryd.results20 (show _ = (.bool (decide (e12 = 0)) : Value) from rfl) ?_
  have hS17 : Sep G W Rs w15 := hS16.sel 1 [] (Nat.le_add_left _ _) rfl rfl
  refine ⟨decide (e12 = 0), rfl, ?_, hS17⟩
  intro h9
  exact hok14 (by simpa using h9)

theorem QT {d : Option Tmp} {ty : TypeId} {pos : String} {af : Array Edge} {g : Option (Nat × Bool)} {σ : Env} {w : World} {K : Value → World → Prop} {x : Operand} {b o : Nat} (hx : ev σ x = .pointer (some ⟨b, o, none⟩)) (h : K (.pointer (some ⟨b, o + 2, none⟩)) w) : opV Tryd.prog ⟨d, .fieldAddr 59 x 1, ty, pos, af, g⟩ σ w K := zt Tryd.underlying59 rfl rfl (fun w => ⟨0, Tryd.sizeOf3 w⟩) hx h
theorem Qp {d : Option Tmp} {ty : TypeId} {pos : String} {af : Array Edge} {g : Option (Nat × Bool)} {σ : Env} {w : World} {K : Value → World → Prop} {x : Operand} {b o : Nat} (hx : ev σ x = .pointer (some ⟨b, o, none⟩)) (h : K (.pointer (some ⟨b, o + 9, none⟩)) w) : opV Tryd.prog ⟨d, .fieldAddr 59 x 8, ty, pos, af, g⟩ σ w K := zt Tryd.underlying59 rfl rfl (fun w => ⟨0, Tryd.sizeOf3 w⟩) hx h
theorem Uu {G : Nat → Prop} {W w : World} {Rs : List HP} {e : Ev} {de0 : Value} (hde0 : RdS W G de0 e.deps) (oe : e.Ok) {n : Int} (hn : InR n) (hS0 : Sep G W Rs w) : Ret Tryd.prog 55 [.agg (e.cells de0).toArray, .int .i64 (n)] w (fun r w' => ∃ (c : Int), r = (.int .i64 (c) : Value) ∧ (InR c) ∧ (c = 0 → Yt e n) ∧ Sep G W Rs w') := by
 have hde0s : _ * 8 ≤ _ := hde0.small
 refine zr (args := [.agg (e.cells de0).toArray, .int .i64 (n)]) Tryd.func55 rfl rfl ?_
 refine zd ?_
 refine za (by kernel_rfl) (fun _ => ?_)
 refine st (yb (v := .agg (e.cells de0).toArray) rfl ?_)
 intro w3 b2 hn1
 have hS4 := hS0.new hn1
 refine st (ze (v := .int .i64 (0)) rfl ?_)
 refine zf ?_
 refine zd ?_
 refine zd ?_
 refine zD (by kernel_rfl) ?_
 refine st (yU rfl ?_)
 refine st (Yc rfl ?_)
 refine st (zg (v := .int .i64 (e.origin)) Tryd.isAgg3 rfl (zh (hS4.blk (i := 0) rfl) rfl) ?_)
 refine st (zN (k := .i64) (a := e.origin) (b := 0) rfl rfl ?_)
 refine st (zb (v := .bool (decide (e.origin < 0))) rfl ?_)
 refine stc (V := .pointer (some ⟨b2, 0, none⟩)) rfl rfl (fun hb5 => ?_) ?_
 ·have hl6 := hb5
  have hl6 := of_decide_eq_false hl6
  exact yU rfl ⟨rfl, rfl⟩
 refine stc (V := .pointer (some ⟨b2, 0, none⟩)) rfl rfl (fun hb7 => ?_) ?_
 ·have hl8 := hb7
  have hl8 := of_decide_eq_false hl8
  exact Yc (show _ = (.pointer (some ⟨b2, 0, none⟩) : Value) from (if_pos hb7)) ⟨rfl, rfl⟩
 refine stc (V := .int .i64 (e.origin)) rfl rfl (fun hb9 => ?_) ?_
 ·have hl10 := hb9
  have hl10 := of_decide_eq_false hl10
  exact zg (v := .int .i64 (e.origin)) Tryd.isAgg3 (show _ = (.pointer (some ⟨b2, 0, none⟩) : Value) from (if_pos hb9)) (zh (hS4.blk (i := 0) rfl) rfl) ⟨rfl, rfl⟩
 refine stc (V := .int .i64 (n)) rfl rfl (fun hb11 => ?_) ?_
 ·have hl12 := hb11
  have hl12 := of_decide_eq_false hl12
  exact zb (v := .int .i64 (n)) rfl ⟨rfl, rfl⟩
 refine stc (V := .bool (decide (n ≤ e.origin))) rfl rfl (fun hb13 => ?_) ?_
 ·have hl14 := hb13
  have hl14 := of_decide_eq_false hl14
  exact xI (k := .i64) (a := e.origin) (b := n) (show _ = (.int .i64 (e.origin) : Value) from (if_pos hb13)) (show _ = (.int .i64 (n) : Value) from (if_pos hb13)) ⟨rfl, rfl⟩
 refine st (zA (b := decide (e.origin < 0)) (b' := decide (n ≤ e.origin)) rfl (fun hbp => (show _ = (.bool (decide (n ≤ e.origin)) : Value) from (if_pos hbp))) ?_)
 refine st (zb (v := .bool ((decide (e.origin < 0)) || (decide (n ≤ e.origin)))) rfl ?_)
 refine stc (V := .pointer (some ⟨b2, 0, none⟩)) rfl rfl (fun hb15 => ?_) ?_
 ·have hl16 := hb15
  try simp only [zn] at hl16
  exact yU rfl ⟨rfl, rfl⟩
 refine stc (V := .pointer (some ⟨b2, 1, none⟩)) rfl rfl (fun hb17 => ?_) ?_
 ·have hl18 := hb17
  try simp only [zn] at hl18
  exact Xj (show _ = (.pointer (some ⟨b2, 0, none⟩) : Value) from (if_pos hb17)) ⟨rfl, rfl⟩
 refine stc (V := .int .i64 (e.seq)) rfl rfl (fun hb19 => ?_) ?_
 ·have hl20 := hb19
  try simp only [zn] at hl20
  exact zg (v := .int .i64 (e.seq)) Tryd.isAgg3 (show _ = (.pointer (some ⟨b2, 1, none⟩) : Value) from (if_pos hb19)) (zh (hS4.blk (i := 0) rfl) rfl) ⟨rfl, rfl⟩
 refine stc (V := .bool (decide (e.seq < 1))) rfl rfl (fun hb21 => ?_) ?_
 ·have hl22 := hb21
  try simp only [zn] at hl22
  exact zN (k := .i64) (a := e.seq) (b := 1) (show _ = (.int .i64 (e.seq) : Value) from (if_pos hb21)) rfl ⟨rfl, rfl⟩
 refine st (zA (b := (decide (e.origin < 0)) || (decide (n ≤ e.origin))) (b' := decide (e.seq < 1)) rfl (fun hbp => (show _ = (.bool (decide (e.seq < 1)) : Value) from (if_pos hbp))) ?_)
 refine st (zb (v := .bool (((decide (e.origin < 0)) || (decide (n ≤ e.origin))) || (decide (e.seq < 1)))) rfl ?_)
 refine stc (V := .pointer (some ⟨b2, 2, none⟩)) rfl rfl (fun hb23 => ?_) ?_
 ·have hl24 := hb23
  try simp only [zn] at hl24
  exact QT rfl ⟨rfl, rfl⟩
 refine stc (V := .int .i64 (e.lam)) rfl rfl (fun hb25 => ?_) ?_
 ·have hl26 := hb25
  try simp only [zn] at hl26
  exact zg (v := .int .i64 (e.lam)) Tryd.isAgg3 (show _ = (.pointer (some ⟨b2, 2, none⟩) : Value) from (if_pos hb25)) (zh (hS4.blk (i := 0) rfl) rfl) ⟨rfl, rfl⟩
 refine stc (V := .bool (decide (e.lam < 1))) rfl rfl (fun hb27 => ?_) ?_
 ·have hl28 := hb27
  try simp only [zn] at hl28
  exact zN (k := .i64) (a := e.lam) (b := 1) (show _ = (.int .i64 (e.lam) : Value) from (if_pos hb27)) rfl ⟨rfl, rfl⟩
 refine st (zA (b := ((decide (e.origin < 0)) || (decide (n ≤ e.origin))) || (decide (e.seq < 1))) (b' := decide (e.lam < 1)) rfl (fun hbp => (show _ = (.bool (decide (e.lam < 1)) : Value) from (if_pos hbp))) ?_)
 refine st (zb (v := .bool ((((decide (e.origin < 0)) || (decide (n ≤ e.origin))) || (decide (e.seq < 1))) || (decide (e.lam < 1)))) rfl ?_)
 refine stc (V := .pointer (some ⟨b2, 5, none⟩)) rfl rfl (fun hb29 => ?_) ?_
 ·have hl30 := hb29
  try simp only [zn] at hl30
  exact Ub rfl ⟨rfl, rfl⟩
 refine stc (V := .int .i64 (e.agg)) rfl rfl (fun hb31 => ?_) ?_
 ·have hl32 := hb31
  try simp only [zn] at hl32
  exact zg (v := .int .i64 (e.agg)) Tryd.isAgg3 (show _ = (.pointer (some ⟨b2, 5, none⟩) : Value) from (if_pos hb31)) (zh (hS4.blk (i := 0) rfl) rfl) ⟨rfl, rfl⟩
 refine stc (V := .bool (decide (e.agg < 0))) rfl rfl (fun hb33 => ?_) ?_
 ·have hl34 := hb33
  try simp only [zn] at hl34
  exact zN (k := .i64) (a := e.agg) (b := 0) (show _ = (.int .i64 (e.agg) : Value) from (if_pos hb33)) rfl ⟨rfl, rfl⟩
 refine st (zA (b := (((decide (e.origin < 0)) || (decide (n ≤ e.origin))) || (decide (e.seq < 1))) || (decide (e.lam < 1))) (b' := decide (e.agg < 0)) rfl (fun hbp => (show _ = (.bool (decide (e.agg < 0)) : Value) from (if_pos hbp))) ?_)
 refine st (zb (v := .bool (((((decide (e.origin < 0)) || (decide (n ≤ e.origin))) || (decide (e.seq < 1))) || (decide (e.lam < 1))) || (decide (e.agg < 0)))) rfl ?_)
 refine stc (V := .pointer (some ⟨b2, 9, none⟩)) rfl rfl (fun hb35 => ?_) ?_
 ·have hl36 := hb35
  try simp only [zn] at hl36
  exact Qp rfl ⟨rfl, rfl⟩
 refine stc (V := .int .i64 (e.key)) rfl rfl (fun hb37 => ?_) ?_
 ·have hl38 := hb37
  try simp only [zn] at hl38
  exact zg (v := .int .i64 (e.key)) Tryd.isAgg3 (show _ = (.pointer (some ⟨b2, 9, none⟩) : Value) from (if_pos hb37)) (zh (hS4.blk (i := 0) rfl) rfl) ⟨rfl, rfl⟩
 refine stc (V := .bool (decide (e.key < 0))) rfl rfl (fun hb39 => ?_) ?_
 ·have hl40 := hb39
  try simp only [zn] at hl40
  exact zN (k := .i64) (a := e.key) (b := 0) (show _ = (.int .i64 (e.key) : Value) from (if_pos hb39)) rfl ⟨rfl, rfl⟩
 refine st (zA (b := ((((decide (e.origin < 0)) || (decide (n ≤ e.origin))) || (decide (e.seq < 1))) || (decide (e.lam < 1))) || (decide (e.agg < 0))) (b' := decide (e.key < 0)) rfl (fun hbp => (show _ = (.bool (decide (e.key < 0)) : Value) from (if_pos hbp))) ?_)
 refine st (zb (v := .bool ((((((decide (e.origin < 0)) || (decide (n ≤ e.origin))) || (decide (e.seq < 1))) || (decide (e.lam < 1))) || (decide (e.agg < 0))) || (decide (e.key < 0)))) rfl ?_)
 refine stc (V := .pointer (some ⟨b2, 3, none⟩)) rfl rfl (fun hb41 => ?_) ?_
 ·have hl42 := hb41
  try simp only [zn] at hl42
  exact xS rfl ⟨rfl, rfl⟩
 refine stc (V := de0) rfl rfl (fun hb43 => ?_) ?_
 ·have hl44 := hb43
  try simp only [zn] at hl44
  exact zg (v := de0) Tryd.isAgg40 (show _ = (.pointer (some ⟨b2, 3, none⟩) : Value) from (if_pos hb43)) (zh (hS4.blk (i := 0) rfl) rfl) ⟨rfl, rfl⟩
 refine stc (V := .int .i64 ((e.deps.length : Nat) : Int)) rfl rfl (fun hb45 => ?_) ?_
 ·have hl46 := hb45
  try simp only [zn] at hl46
  exact zJ (n := e.deps.length) Tryd.underlying40 (show _ = (de0 : Value) from (if_pos hb45)) hde0.sl ⟨rfl, rfl⟩
 refine stc (V := .int .i64 (n)) rfl rfl (fun hb47 => ?_) ?_
 ·have hl48 := hb47
  try simp only [zn] at hl48
  exact zb (v := .int .i64 (n)) rfl ⟨rfl, rfl⟩
 refine stc (V := .bool (!decide (((e.deps.length : Nat) : Int) = n))) rfl rfl (fun hb49 => ?_) ?_
 ·have hl50 := hb49
  try simp only [zn] at hl50
  exact yz (k := .i64) (a := ((e.deps.length : Nat) : Int)) (b := n) (show _ = (.int .i64 ((e.deps.length : Nat) : Int) : Value) from (if_pos hb49)) (show _ = (.int .i64 (n) : Value) from (if_pos hb49)) ⟨rfl, rfl⟩
 refine st (zA (b := (((((decide (e.origin < 0)) || (decide (n ≤ e.origin))) || (decide (e.seq < 1))) || (decide (e.lam < 1))) || (decide (e.agg < 0))) || (decide (e.key < 0))) (b' := !decide (((e.deps.length : Nat) : Int) = n)) rfl (fun hbp => (show _ = (.bool (!decide (((e.deps.length : Nat) : Int) = n)) : Value) from (if_pos hbp))) ?_)
 refine zf ?_
 cases hc51 : ((((((decide (e.origin < 0)) || (decide (n ≤ e.origin))) || (decide (e.seq < 1))) || (decide (e.lam < 1))) || (decide (e.agg < 0))) || (decide (e.key < 0))) || (!decide (((e.deps.length : Nat) : Int) = n))
 ·skip
  try simp only [zn] at hc51
  refine zo rfl ?_
  refine zw ?_
  refine zd ?_
  refine zd ?_
  refine za (by kernel_rfl) (fun _ => ?_)
  refine st (ze (v := .int .i64 (0)) rfl ?_)
  refine zf ?_
  refine zx ?_
  refine yn (fun mq σ wq => ∃ (k : Nat) (ρ : Env), mq = e.deps.length - k ∧ σ = yp ρ [(1, .int .i64 (n)), (2, .pointer (some ⟨b2, 0, none⟩)), (5, .int .i64 ((k : Nat) : Int))] ∧ (k ≤ e.deps.length) ∧ (∀ i, i < k → 0 ≤ e.deps.getD i 0) ∧ Sep G W ((Blk b2 (e.cells de0).toArray 59) :: Rs) wq) ⟨0, _, rfl, zp ⟨rfl, rfl, rfl, trivial⟩, Nat.zero_le _, (fun i h => absurd h (Nat.not_lt_zero i)), hS4⟩ ?_
  rintro m53 σ54 w52 ⟨k, ρl1, rfl, rfl, hkk, hm, hS55⟩
  refine zd ?_
  refine zd ?_
  refine za (by kernel_rfl) (fun _ => ?_)
  refine st (zb (v := .int .i64 ((k : Nat) : Int)) rfl ?_)
  refine st (zb (v := .int .i64 (n)) rfl ?_)
  refine st (zN (k := .i64) (a := ((k : Nat) : Int)) (b := n) rfl rfl ?_)
  refine zf ?_
  cases hc56 : decide (((k : Nat) : Int) < n)
  ·skip
   have hc56 := of_decide_eq_false hc56
   refine zo rfl ?_
   refine ym ?_
   refine yd ?_
   refine zd ?_
   refine zd ?_
   refine zP (WF [fun vals wq => Sep G W ((Blk b2 (e.cells de0).toArray 59) :: Rs) wq]) (AF [Vl 0 (.pointer (some ⟨b2, 3, none⟩)), Vl 1 (de0), Vl 2 (.pointer (some ⟨b2, 0, none⟩)), Vl 3 (.pointer (some ⟨b2, 0, none⟩)), Vl 4 (.int .i64 (e.origin)), Vl 5 (.pointer (some ⟨sb de0, so de0 + e.origin.toNat * 1, none⟩)), Vl 6 (.int .i64 ((e.deps.getD e.origin.toNat 0))), Vl 7 (.pointer (some ⟨b2, 0, none⟩)), Vl 8 (.pointer (some ⟨b2, 1, none⟩)), Vl 9 (.int .i64 (e.seq)), Vl 10 (.int .i64 (e.seq - 1)), Vl 11 (.bool (!decide ((e.deps.getD e.origin.toNat 0) = (e.seq - 1))))]) [[], [0], [], [2], [2, 3], [0, 1, 2, 3, 4], [0, 1, 2, 3, 4, 5], [], [7], [7, 8], [7, 8, 9], [0, 1, 2, 3, 4, 5, 6, 7, 8, 9, 10]] [] [(0, 0), (0, 0), (0, 0), (0, 0), (0, 0), (0, 0), (0, 0), (0, 0), (0, 0), (0, 0), (0, 0), (0, 0)] (by kernel_rfl) (by kernel_rfl) (by kernel_rfl) rfl (by kernel_rfl) (by kernel_rfl) (fun _ h1 h2 h3 h4 _ => hS55.same h1 h2 h3 h4) ?_ (yg ⟨dA, dA, dA, dA, dA, dA, dA, dA, dA, dA, dA, dA, trivial⟩) ⟨?_, ?_, ?_, ?_, ?_, ?_, ?_, ?_, ?_, ?_, ?_, ?_, trivial⟩ ?_
   ·intro k vals vals' w hv h
    match k, h with
    | 0, h => exact h
    | _ + 1, _ => trivial
   ·intro k152 vals w153 h156 h157 hW155 hA154
    refine obl rfl ?_
    exact xS rfl (fun vals' hv _ => ⟨rfl, hv⟩)
   ·intro k158 vals w159 h162 h163 hW161 hA160
    obtain rfl : k158 = 0 := Nat.le_antisymm h163 h162
    have hS164 : Sep _ _ _ _ := hW161
    have e165 := hA160 0 (by decide)
    refine obl rfl ?_
    exact zg (v := de0) Tryd.isAgg40 e165 (zh (hS164.blk (i := 0) rfl) rfl) (fun vals' hv _ => ⟨rfl, hv⟩)
   ·intro k166 vals w167 h170 h171 hW169 hA168
    refine obl rfl ?_
    exact yU rfl (fun vals' hv _ => ⟨rfl, hv⟩)
   ·intro k172 vals w173 h176 h177 hW175 hA174
    have e178 := hA174 2 (by decide)
    refine obl rfl ?_
    exact Yc e178 (fun vals' hv _ => ⟨rfl, hv⟩)
   ·intro k179 vals w180 h183 h184 hW182 hA181
    obtain rfl : k179 = 0 := Nat.le_antisymm h184 h183
    have hS185 : Sep _ _ _ _ := hW182
    have e186 := hA181 3 (by decide)
    refine obl rfl ?_
    exact zg (v := .int .i64 (e.origin)) Tryd.isAgg3 e186 (zh (hS185.blk (i := 0) rfl) rfl) (fun vals' hv _ => ⟨rfl, hv⟩)
   ·intro k187 vals w188 h191 h192 hW190 hA189
    obtain rfl : k187 = 0 := Nat.le_antisymm h192 h191
    have hS193 : Sep _ _ _ _ := hW190
    have e194 := hA189 1 (by decide)
    have e195 := hA189 4 (by decide)
    refine obl rfl ?_
    have hi196 : e.origin.toNat < e.deps.length := (by first | omega | (simp only [lens]; omega))
    exact zG (k := 1) (i := e.origin) Tryd.underlying40 Tryd.sizeOf3 e194 hde0.sl e195 ⟨by omega, by omega⟩ (fun vals' hv _ => ⟨rfl, hv⟩)
   ·intro k197 vals w198 h201 h202 hW200 hA199
    obtain rfl : k197 = 0 := Nat.le_antisymm h202 h201
    have hS203 : Sep _ _ _ _ := hW200
    have e204 := hA199 5 (by decide)
    refine obl rfl ?_
    have hi206 : e.origin.toNat < e.deps.length := (by first | omega | (simp only [lens]; omega))
    obtain ⟨hce205, hxe205⟩ := hde0.int hi206
    rw [← zk 0 hi206] at hce205 hxe205
    have hcw207 := hS203.cells hce205 (hde0.foot (ne_of_lt hi206))
    exact zg (v := .int .i64 ((e.deps.getD e.origin.toNat 0))) Tryd.isAgg3 e204 (hcw207.get (j := 0) rfl) (fun vals' hv _ => ⟨rfl, hv⟩)
   ·intro k208 vals w209 h212 h213 hW211 hA210
    refine obl rfl ?_
    exact yU rfl (fun vals' hv _ => ⟨rfl, hv⟩)
   ·intro k214 vals w215 h218 h219 hW217 hA216
    have e220 := hA216 7 (by decide)
    refine obl rfl ?_
    exact Xj e220 (fun vals' hv _ => ⟨rfl, hv⟩)
   ·intro k221 vals w222 h225 h226 hW224 hA223
    obtain rfl : k221 = 0 := Nat.le_antisymm h226 h225
    have hS227 : Sep _ _ _ _ := hW224
    have e228 := hA223 8 (by decide)
    refine obl rfl ?_
    exact zg (v := .int .i64 (e.seq)) Tryd.isAgg3 e228 (zh (hS227.blk (i := 0) rfl) rfl) (fun vals' hv _ => ⟨rfl, hv⟩)
   ·intro k229 vals w230 h233 h234 hW232 hA231
    obtain rfl : k229 = 0 := Nat.le_antisymm h234 h233
    have hS235 : Sep _ _ _ _ := hW232
    have e236 := hA231 9 (by decide)
    refine obl rfl ?_
    have hr237 : InR (e.seq - 1) := (by have h9 := oe.seq; omega)
    exact Xn (r := e.seq - 1) (k := .i64) (a := e.seq) (b := 1) e236 rfl (by rw [show (e.seq - 1 : Int) = e.seq - 1 from rfl]; exact zQ hr237) (fun vals' hv _ => ⟨rfl, hv⟩)
   ·intro k238 vals w239 h242 h243 hW241 hA240
    obtain rfl : k238 = 0 := Nat.le_antisymm h243 h242
    have hS244 : Sep _ _ _ _ := hW241
    have e245 := hA240 6 (by decide)
    have e246 := hA240 10 (by decide)
    refine obl rfl ?_
    exact yz (k := .i64) (a := (e.deps.getD e.origin.toNat 0)) (b := e.seq - 1) e245 e246 (fun vals' hv _ => ⟨rfl, hv⟩)
   intro vals w247 hW248 hA249
   have hS250 : Sep _ _ _ _ := hW248
   have e251 := hA249 11 (by decide)
   refine yh (kv := [(1, .int .i64 (n)), (2, .pointer (some ⟨b2, 0, none⟩)), (5, .int .i64 ((k : Nat) : Int)), (45, .int .i64 ((k : Nat) : Int)), (46, .int .i64 (n)), (47, .bool false), (67, .bool (!decide ((e.deps.getD e.origin.toNat 0) = (e.seq - 1))))]) ⟨rfl, rfl, rfl, rfl, rfl, rfl, (by exact e251), trivial⟩ (fun ρw247 => ?_)
   refine zf ?_
   cases hc252 : !decide ((e.deps.getD e.origin.toNat 0) = (e.seq - 1))
   ·skip
    have hc252 := yq hc252
    refine zo rfl ?_
    refine zw ?_
    refine zd ?_
    refine zd ?_
    refine zD (by kernel_rfl) ?_
    refine st (Zk rfl ?_)
    refine st (zg (v := .int .i64 (e.op)) Tryd.isAgg3 rfl (zh (hS250.blk (i := 0) rfl) rfl) ?_)
    refine st (zN (k := .i64) (a := e.op) (b := 1) rfl rfl ?_)
    refine st (zb (v := .bool (decide (e.op < 1))) rfl ?_)
    refine stc (V := .pointer (some ⟨b2, 7, none⟩)) rfl rfl (fun hb253 => ?_) ?_
    ·have hl254 := hb253
     have hl254 := of_decide_eq_false hl254
     exact Zk rfl ⟨rfl, rfl⟩
    refine stc (V := .int .i64 (e.op)) rfl rfl (fun hb255 => ?_) ?_
    ·have hl256 := hb255
     have hl256 := of_decide_eq_false hl256
     exact zg (v := .int .i64 (e.op)) Tryd.isAgg3 (show _ = (.pointer (some ⟨b2, 7, none⟩) : Value) from (if_pos hb255)) (zh (hS250.blk (i := 0) rfl) rfl) ⟨rfl, rfl⟩
    refine stc (V := .bool (decide (5 < e.op))) rfl rfl (fun hb257 => ?_) ?_
    ·have hl258 := hb257
     have hl258 := of_decide_eq_false hl258
     exact yP (k := .i64) (a := e.op) (b := 5) (show _ = (.int .i64 (e.op) : Value) from (if_pos hb257)) rfl ⟨rfl, rfl⟩
    refine st (zA (b := decide (e.op < 1)) (b' := decide (5 < e.op)) rfl (fun hbp => (show _ = (.bool (decide (5 < e.op)) : Value) from (if_pos hbp))) ?_)
    refine zf ?_
    cases hc259 : (decide (e.op < 1)) || (decide (5 < e.op))
    ·skip
     try simp only [zn] at hc259
     refine zo rfl ?_
     refine zw ?_
     refine zd ?_
     refine zd ?_
     refine zD (by kernel_rfl) ?_
     refine st (Yl rfl ?_)
     refine st (zg (v := .int .i64 (e.typ)) Tryd.isAgg3 rfl (zh (hS250.blk (i := 0) rfl) rfl) ?_)
     refine st (zN (k := .i64) (a := e.typ) (b := 0) rfl rfl ?_)
     refine st (zb (v := .bool (decide (e.typ < 0))) rfl ?_)
     refine stc (V := .pointer (some ⟨b2, 4, none⟩)) rfl rfl (fun hb260 => ?_) ?_
     ·have hl261 := hb260
      have hl261 := of_decide_eq_false hl261
      exact Yl rfl ⟨rfl, rfl⟩
     refine stc (V := .int .i64 (e.typ)) rfl rfl (fun hb262 => ?_) ?_
     ·have hl263 := hb262
      have hl263 := of_decide_eq_false hl263
      exact zg (v := .int .i64 (e.typ)) Tryd.isAgg3 (show _ = (.pointer (some ⟨b2, 4, none⟩) : Value) from (if_pos hb262)) (zh (hS250.blk (i := 0) rfl) rfl) ⟨rfl, rfl⟩
     refine stc (V := .bool (decide (7 < e.typ))) rfl rfl (fun hb264 => ?_) ?_
     ·have hl265 := hb264
      have hl265 := of_decide_eq_false hl265
      exact yP (k := .i64) (a := e.typ) (b := 7) (show _ = (.int .i64 (e.typ) : Value) from (if_pos hb264)) rfl ⟨rfl, rfl⟩
     refine st (zA (b := decide (e.typ < 0)) (b' := decide (7 < e.typ)) rfl (fun hbp => (show _ = (.bool (decide (7 < e.typ)) : Value) from (if_pos hbp))) ?_)
     refine st (zb (v := .bool ((decide (e.typ < 0)) || (decide (7 < e.typ)))) rfl ?_)
     refine stc (V := .pointer (some ⟨b2, 6, none⟩)) rfl rfl (fun hb266 => ?_) ?_
     ·have hl267 := hb266
      try simp only [zn] at hl267
      exact Zi rfl ⟨rfl, rfl⟩
     refine stc (V := .int .i64 (e.field)) rfl rfl (fun hb268 => ?_) ?_
     ·have hl269 := hb268
      try simp only [zn] at hl269
      exact zg (v := .int .i64 (e.field)) Tryd.isAgg3 (show _ = (.pointer (some ⟨b2, 6, none⟩) : Value) from (if_pos hb268)) (zh (hS250.blk (i := 0) rfl) rfl) ⟨rfl, rfl⟩
     refine stc (V := .bool (decide (e.field < 0))) rfl rfl (fun hb270 => ?_) ?_
     ·have hl271 := hb270
      try simp only [zn] at hl271
      exact zN (k := .i64) (a := e.field) (b := 0) (show _ = (.int .i64 (e.field) : Value) from (if_pos hb270)) rfl ⟨rfl, rfl⟩
     refine st (zA (b := (decide (e.typ < 0)) || (decide (7 < e.typ))) (b' := decide (e.field < 0)) rfl (fun hbp => (show _ = (.bool (decide (e.field < 0)) : Value) from (if_pos hbp))) ?_)
     refine st (zb (v := .bool (((decide (e.typ < 0)) || (decide (7 < e.typ))) || (decide (e.field < 0)))) rfl ?_)
     refine stc (V := .pointer (some ⟨b2, 6, none⟩)) rfl rfl (fun hb272 => ?_) ?_
     ·have hl273 := hb272
      try simp only [zn] at hl273
      exact Zi rfl ⟨rfl, rfl⟩
     refine stc (V := .int .i64 (e.field)) rfl rfl (fun hb274 => ?_) ?_
     ·have hl275 := hb274
      try simp only [zn] at hl275
      exact zg (v := .int .i64 (e.field)) Tryd.isAgg3 (show _ = (.pointer (some ⟨b2, 6, none⟩) : Value) from (if_pos hb274)) (zh (hS250.blk (i := 0) rfl) rfl) ⟨rfl, rfl⟩
     refine stc (V := .bool (decide (7 < e.field))) rfl rfl (fun hb276 => ?_) ?_
     ·have hl277 := hb276
      try simp only [zn] at hl277
      exact yP (k := .i64) (a := e.field) (b := 7) (show _ = (.int .i64 (e.field) : Value) from (if_pos hb276)) rfl ⟨rfl, rfl⟩
     refine st (zA (b := ((decide (e.typ < 0)) || (decide (7 < e.typ))) || (decide (e.field < 0))) (b' := decide (7 < e.field)) rfl (fun hbp => (show _ = (.bool (decide (7 < e.field)) : Value) from (if_pos hbp))) ?_)
     refine zf ?_
     cases hc278 : (((decide (e.typ < 0)) || (decide (7 < e.typ))) || (decide (e.field < 0))) || (decide (7 < e.field))
     ·skip
      try simp only [zn] at hc278
      refine zo rfl ?_
      refine zw ?_
      refine zd ?_
      refine za (by kernel_rfl) (fun _ => ?_)
      refine st (ze (v := .int .i64 (0)) rfl ?_)
      refine zf ?_
      refine zu ?_
      refine ya Tryd.results55 (show _ = (.int .i64 (0) : Value) from rfl) ?_
      have hS279 : Sep G W Rs w247 := hS250.sel 1 [] (Nat.le_add_left _ _) rfl rfl
      refine ⟨0, rfl, ?_, ?_, hS279⟩
      · decide
      · intro h9
        exact ⟨⟨by omega, by omega, by omega, by omega⟩, fun i hi => hm i (by omega)⟩
     ·skip
      try simp only [zn] at hc278
      refine zq rfl ?_
      refine zd ?_
      refine za (by kernel_rfl) (fun _ => ?_)
      refine st (ze (v := .int .i64 (8)) rfl ?_)
      refine zf ?_
      refine zu ?_
      refine ya Tryd.results55 (show _ = (.int .i64 (8) : Value) from rfl) ?_
      have hS280 : Sep G W Rs w247 := hS250.sel 1 [] (Nat.le_add_left _ _) rfl rfl
      refine ⟨8, rfl, ?_, ?_, hS280⟩
      · decide
      · intro h9
        omega
    ·skip
     try simp only [zn] at hc259
     refine zq rfl ?_
     refine zd ?_
     refine za (by kernel_rfl) (fun _ => ?_)
     refine st (ze (v := .int .i64 (2)) rfl ?_)
     refine zf ?_
     refine zu ?_
     refine ya Tryd.results55 (show _ = (.int .i64 (2) : Value) from rfl) ?_
     have hS281 : Sep G W Rs w247 := hS250.sel 1 [] (Nat.le_add_left _ _) rfl rfl
     refine ⟨2, rfl, ?_, ?_, hS281⟩
     · decide
     · intro h9
       omega
   ·skip
    have hc252 := zY hc252
    refine zq rfl ?_
    refine zd ?_
    refine za (by kernel_rfl) (fun _ => ?_)
    refine st (ze (v := .int .i64 (9)) rfl ?_)
    refine zf ?_
    refine zu ?_
    refine ya Tryd.results55 (show _ = (.int .i64 (9) : Value) from rfl) ?_
    have hS282 : Sep G W Rs w247 := hS250.sel 1 [] (Nat.le_add_left _ _) rfl rfl
    refine ⟨9, rfl, ?_, ?_, hS282⟩
    · decide
    · intro h9
      omega
  ·skip
   have hc56 := of_decide_eq_true hc56
   refine zq rfl ?_
   refine zw ?_
   refine zd ?_
   refine zx ?_
   refine zd ?_
   refine za (by kernel_rfl) (fun _ => ?_)
   refine st (xS rfl ?_)
   refine st (zg (v := de0) Tryd.isAgg40 rfl (zh (hS55.blk (i := 0) rfl) rfl) ?_)
   refine st (zb (v := .int .i64 ((k : Nat) : Int)) rfl ?_)
   have hi283 : k < e.deps.length := (by first | omega | (simp only [lens]; omega))
   refine st (zm (k := 1) (i := k) Tryd.underlying40 Tryd.sizeOf3 rfl hde0.sl rfl hi283 ?_)
   have hi285 : k < e.deps.length := (by first | omega | (simp only [lens]; omega))
   obtain ⟨hce284, hxe284⟩ := hde0.int hi285
   rw [← zk 0 hi285] at hce284 hxe284
   have hcw286 := hS55.cells hce284 (hde0.foot (ne_of_lt hi285))
   refine st (zg (v := .int .i64 ((e.deps.getD k 0))) Tryd.isAgg3 rfl (hcw286.get (j := 0) rfl) ?_)
   refine st (zN (k := .i64) (a := (e.deps.getD k 0)) (b := 0) rfl rfl ?_)
   refine zf ?_
   cases hc287 : decide ((e.deps.getD k 0) < 0)
   ·skip
    have hc287 := of_decide_eq_false hc287
    refine zo rfl ?_
    refine zw ?_
    refine za (by kernel_rfl) (fun _ => ?_)
    refine st (zb (v := .int .i64 ((k : Nat) : Int)) rfl ?_)
    have hr288 : InR ((k + 1 : Nat) : Int) := by first | omega | (simp only [lens]; omega)
    refine st (ye (r := ((k + 1 : Nat) : Int)) (k := .i64) (a := ((k : Nat) : Int)) (b := 1) rfl rfl (by rw [show (((k : Nat) : Int) + 1 : Int) = ((k + 1 : Nat) : Int) by first | omega | (simp only [lens]; omega)]; exact zQ hr288) ?_)
    refine st (ze (v := .int .i64 ((k + 1 : Nat) : Int)) rfl ?_)
    refine zf ?_
    exact ⟨_, by omega, k + 1, _, rfl, zp ⟨rfl, rfl, rfl, trivial⟩, by omega, (xv hm (by omega)), hS55⟩
   ·skip
    have hc287 := of_decide_eq_true hc287
    refine zq rfl ?_
    refine zd ?_
    refine za (by kernel_rfl) (fun _ => ?_)
    refine st (ze (v := .int .i64 (1)) rfl ?_)
    refine zf ?_
    refine zu ?_
    refine ya Tryd.results55 (show _ = (.int .i64 (1) : Value) from rfl) ?_
    have hS289 : Sep G W Rs w52 := hS55.sel 1 [] (Nat.le_add_left _ _) rfl rfl
    refine ⟨1, rfl, ?_, ?_, hS289⟩
    · decide
    · intro h9
      omega
 ·skip
  try simp only [zn] at hc51
  refine zq rfl ?_
  refine zd ?_
  refine za (by kernel_rfl) (fun _ => ?_)
  refine st (ze (v := .int .i64 (1)) rfl ?_)
  refine zf ?_
  refine zu ?_
  refine ya Tryd.results55 (show _ = (.int .i64 (1) : Value) from rfl) ?_
  have hS290 : Sep G W Rs w3 := hS4.sel 1 [] (Nat.le_add_left _ _) rfl rfl
  refine ⟨1, rfl, ?_, ?_, hS290⟩
  · decide
  · intro h9
    omega

theorem Ui {G : Nat → Prop} {W w : World} {Rs : List HP} {n : Int} (hn : InR n) {vl : Value} {l : List Ev} (hl : RdS W G vl l) (hS0 : Sep G W Rs w) : Ret Tryd.prog 22 [.int .i64 (n), vl] w (fun r w' => ∃ (v : Value) (l2 : List Ev), r = (v : Value) ∧ (l2.length ≤ 60) ∧ (∀ i, i < l2.length → Yt (l2.getD i default) n) ∧ Sep G W ((RowE (α := Ev) (shr G W) 59 v l2) :: Rs) w') := by
 have hls : _ * 96 ≤ _ := hl.small
 refine zr (args := [.int .i64 (n), vl]) Tryd.func22 rfl rfl ?_
 refine zd ?_
 refine za (by kernel_rfl) (fun _ => ?_)
 refine st (ze (v := (.slice none 0 0)) rfl ?_)
 refine zf ?_
 refine zd ?_
 refine za (by kernel_rfl) (fun _ => ?_)
 refine st (ze (v := (.slice none 0 0)) rfl ?_)
 refine zf ?_
 refine zd ?_
 refine zd ?_
 refine za (by kernel_rfl) (fun _ => ?_)
 refine st (ze (v := .int .i64 (0)) rfl ?_)
 refine zf ?_
 refine zx ?_
 have hS1 : Sep G W ((RowE (α := Ev) (shr G W) 59 (.slice none 0 0) ([] : List Ev)) :: Rs) w := hS0.rowNil (shr G W) 59
 refine yn (fun mq σ wq => ∃ (k : Nat) (vo : Value) (l2 : List Ev) (ρ : Env), mq = l.length - k ∧ σ = yp ρ [(0, .int .i64 (n)), (1, vl), (5, vo), (6, .int .i64 ((k : Nat) : Int))] ∧ (k ≤ l.length) ∧ (l2.length ≤ 60) ∧ (∀ i, i < l2.length → Yt (l2.getD i default) n) ∧ Sep G W ((RowE (α := Ev) (shr G W) 59 vo l2) :: Rs) wq) ⟨0, (.slice none 0 0), [], _, rfl, zp ⟨rfl, rfl, rfl, rfl, trivial⟩, Nat.zero_le _, Nat.zero_le _, (fun i h => absurd h (Nat.not_lt_zero i)), hS1⟩ ?_
 rintro m3 σ4 w2 ⟨k, vo, l2, ρl1, rfl, rfl, hkk, h60, hft, hS5⟩
 have hr6 := hS5.row (i := 0) rfl
 have hr6s : _ * 96 ≤ _ := hr6.2
 refine zd ?_
 refine zd ?_
 refine zD (by kernel_rfl) ?_
 refine st (zb (v := .int .i64 ((k : Nat) : Int)) rfl ?_)
 refine st (zb (v := vl) rfl ?_)
 refine st (zJ (n := l.length) Tryd.underlying47 rfl hl.sl ?_)
 refine st (zN (k := .i64) (a := ((k : Nat) : Int)) (b := ((l.length : Nat) : Int)) rfl rfl ?_)
 refine st (zb (v := .bool (decide (((k : Nat) : Int) < ((l.length : Nat) : Int)))) rfl ?_)
 refine stc (V := vo) rfl rfl (fun hb7 => ?_) ?_
 ·have hl8 := hb7
  have hl8 := of_decide_eq_true hl8
  exact zb (v := vo) rfl ⟨rfl, rfl⟩
 refine stc (V := .int .i64 ((l2.length : Nat) : Int)) rfl rfl (fun hb9 => ?_) ?_
 ·have hl10 := hb9
  have hl10 := of_decide_eq_true hl10
  exact zJ (n := l2.length) Tryd.underlying47 (show _ = (vo : Value) from (if_pos hb9)) hr6.1 ⟨rfl, rfl⟩
 refine stc (V := .bool (decide (((l2.length : Nat) : Int) < 60))) rfl rfl (fun hb11 => ?_) ?_
 ·have hl12 := hb11
  have hl12 := of_decide_eq_true hl12
  exact zN (k := .i64) (a := ((l2.length : Nat) : Int)) (b := 60) (show _ = (.int .i64 ((l2.length : Nat) : Int) : Value) from (if_pos hb11)) rfl ⟨rfl, rfl⟩
 refine st (zK (b := decide (((k : Nat) : Int) < ((l.length : Nat) : Int))) (b' := decide (((l2.length : Nat) : Int) < 60)) rfl (fun hbp => (show _ = (.bool (decide (((l2.length : Nat) : Int) < 60)) : Value) from (if_pos hbp))) ?_)
 refine zf ?_
 cases hc13 : (decide (((k : Nat) : Int) < ((l.length : Nat) : Int))) && (decide (((l2.length : Nat) : Int) < 60))
 ·skip
  try simp only [zn] at hc13
  refine zo rfl ?_
  refine ym ?_
  refine yd ?_
  refine zd ?_
  refine za (by kernel_rfl) (fun _ => ?_)
  refine st (zb (v := vo) rfl ?_)
  refine st (ze (v := vo) rfl ?_)
  refine zf ?_
  refine zu ?_
  refine ya Tryd.results22 (show _ = (vo : Value) from rfl) ?_
  refine ⟨vo, l2, rfl, ?_, ?_, hS5⟩
  · exact h60
  · exact hft
 ·skip
  try simp only [zn] at hc13
  refine zq rfl ?_
  refine zw ?_
  refine zd ?_
  refine zx ?_
  refine zd ?_
  refine zD (by kernel_rfl) ?_
  refine st (zb (v := vl) rfl ?_)
  refine st (zb (v := .int .i64 ((k : Nat) : Int)) rfl ?_)
  have hi14 : k < l.length := (by first | omega | (simp only [lens]; omega))
  refine st (zm (k := 10) (i := k) Tryd.underlying47 Tryd.sizeOf59 rfl hl.sl rfl hi14 ?_)
  refine st (xS rfl ?_)
  have hi16 : k < l.length := (by first | omega | (simp only [lens]; omega))
  obtain ⟨hce15, hde15_0, hoke15⟩ := hl.ev hi16
  rw [← zk default hi16] at hce15 hde15_0 hoke15
  have hsm17 : ((l.getD k default).deps).length * 8 ≤ 140737488355328 := hde15_0.small
  have hcw18 := hS5.cells hce15 (hl.foot (ne_of_lt hi16))
  refine st (zg (v := (zi W (sb vl) (so vl + k * 10 + 3))) Tryd.isAgg40 rfl (hcw18.get (j := 3) rfl) ?_)
  refine st (zJ (n := ((l.getD k default).deps).length) Tryd.underlying40 rfl hde15_0.sl ?_)
  refine st (zb (v := .int .i64 (n)) rfl ?_)
  refine st (yu (k := .i64) (a := ((((l.getD k default).deps).length : Nat) : Int)) (b := n) rfl rfl ?_)
  refine st (zb (v := .bool (decide (((((l.getD k default).deps).length : Nat) : Int) = n))) rfl ?_)
  refine stc (V := vl) rfl rfl (fun hb19 => ?_) ?_
  ·have hl20 := hb19
   have hl20 := of_decide_eq_true hl20
   exact zb (v := vl) rfl ⟨rfl, rfl⟩
  refine stc (V := .int .i64 ((k : Nat) : Int)) rfl rfl (fun hb21 => ?_) ?_
  ·have hl22 := hb21
   have hl22 := of_decide_eq_true hl22
   exact zb (v := .int .i64 ((k : Nat) : Int)) rfl ⟨rfl, rfl⟩
  refine stc (V := .pointer (some ⟨sb vl, so vl + k * 10, none⟩)) rfl rfl (fun hb23 => ?_) ?_
  ·have hl24 := hb23
   have hl24 := of_decide_eq_true hl24
   have hi25 : k < l.length := (by first | omega | (simp only [lens]; omega))
   exact zm (k := 10) (i := k) Tryd.underlying47 Tryd.sizeOf59 (show _ = (vl : Value) from (if_pos hb23)) hl.sl (show _ = (.int .i64 ((k : Nat) : Int) : Value) from (if_pos hb23)) hi25 ⟨rfl, rfl⟩
  refine stc (V := .agg ((l.getD k default).cells (zi W (sb vl) (so vl + k * 10 + 3))).toArray) rfl rfl (fun hb26 => ?_) ?_
  ·have hl27 := hb26
   have hl27 := of_decide_eq_true hl27
   have hcw29 := hS5.cells hce15 (hl.foot (ne_of_lt hi16))
   exact zl (k := 10) Tryd.isAgg59 Tryd.sizeOf59 rfl (show _ = (.pointer (some ⟨sb vl, so vl + k * 10, none⟩) : Value) from (if_pos hb26)) hcw29 ⟨rfl, rfl⟩
  refine stc (V := .int .i64 (n)) rfl rfl (fun hb30 => ?_) ?_
  ·have hl31 := hb30
   have hl31 := of_decide_eq_true hl31
   exact zb (v := .int .i64 (n)) rfl ⟨rfl, rfl⟩
  cases hg32 : decide (((((l.getD k default).deps).length : Nat) : Int) = n)
  ·skip
   have hg32r := hg32
   have hg32 := of_decide_eq_false hg32
   refine stx rfl rfl ?_
   refine stx rfl rfl ?_
   refine st (zV (v := .bool false) rfl rfl ?_)
   refine zf ?_
   refine zo rfl ?_
   refine zw ?_
   refine za (by kernel_rfl) (fun _ => ?_)
   refine st (zb (v := .int .i64 ((k : Nat) : Int)) rfl ?_)
   have hr33 : InR ((k + 1 : Nat) : Int) := by first | omega | (simp only [lens]; omega)
   refine st (ye (r := ((k + 1 : Nat) : Int)) (k := .i64) (a := ((k : Nat) : Int)) (b := 1) rfl rfl (by rw [show (((k : Nat) : Int) + 1 : Int) = ((k + 1 : Nat) : Int) by first | omega | (simp only [lens]; omega)]; exact zQ hr33) ?_)
   refine st (ze (v := .int .i64 ((k + 1 : Nat) : Int)) rfl ?_)
   refine zf ?_
   exact ⟨_, by omega, k + 1, vo, l2, _, rfl, zp ⟨rfl, rfl, rfl, rfl, trivial⟩, by omega, h60, hft, hS5⟩
  ·skip
   have hg32r := hg32
   have hg32 := of_decide_eq_true hg32
   refine sty rfl rfl (zv (f := 55) (vals := [.agg ((l.getD k default).cells (zi W (sb vl) (so vl + k * 10 + 3))).toArray, .int .i64 (n)]) (cap := []) rfl rfl Tryd.call55 (Uu (e := (l.getD k default)) (n := n) hde15_0 hoke15 hn hS5) ?_)
   rintro _ w37 ⟨c34, rfl, hc935, hck36, hS38⟩
   refine sty rfl rfl (yu (k := .i64) (a := c34) (b := 0) rfl rfl ?_)
   refine st (zU (v := .bool (decide (c34 = 0))) rfl rfl ?_)
   refine zf ?_
   cases hc39 : decide (c34 = 0)
   ·skip
    have hc39 := of_decide_eq_false hc39
    refine zo rfl ?_
    refine zw ?_
    refine za (by kernel_rfl) (fun _ => ?_)
    refine st (zb (v := .int .i64 ((k : Nat) : Int)) rfl ?_)
    have hr40 : InR ((k + 1 : Nat) : Int) := by first | omega | (simp only [lens]; omega)
    refine st (ye (r := ((k + 1 : Nat) : Int)) (k := .i64) (a := ((k : Nat) : Int)) (b := 1) rfl rfl (by rw [show (((k : Nat) : Int) + 1 : Int) = ((k + 1 : Nat) : Int) by first | omega | (simp only [lens]; omega)]; exact zQ hr40) ?_)
    refine st (ze (v := .int .i64 ((k + 1 : Nat) : Int)) rfl ?_)
    refine zf ?_
    exact ⟨_, by omega, k + 1, vo, l2, _, rfl, zp ⟨rfl, rfl, rfl, rfl, trivial⟩, by omega, h60, hft, hS38⟩
   ·skip
    have hc39 := of_decide_eq_true hc39
    refine zq rfl ?_
    refine za (by kernel_rfl) (fun _ => ?_)
    refine st (zb (v := vo) rfl ?_)
    refine st (zb (v := vl) rfl ?_)
    refine st (zb (v := .int .i64 ((k : Nat) : Int)) rfl ?_)
    have hi41 : k < l.length := (by first | omega | (simp only [lens]; omega))
    refine st (zm (k := 10) (i := k) Tryd.underlying47 Tryd.sizeOf59 rfl hl.sl rfl hi41 ?_)
    have hcw43 := hS38.cells hce15 (hl.foot (ne_of_lt hi16))
    refine st (zl (k := 10) Tryd.isAgg59 Tryd.sizeOf59 rfl rfl hcw43 ?_)
    refine st (zB (k := 10) (parts' := [(0, .agg ((l.getD k default).cells (zi W (sb vl) (so vl + k * 10 + 3))).toArray)]) (c := ((l.getD k default).cells (zi W (sb vl) (so vl + k * 10 + 3))).toArray) Tryd.underlying47 Tryd.sizeOf59 Tryd.zeroValue59 (by decide) rfl (by kernel_rfl) ?_)
    intro w46 b45 hn44
    have hS47 := hS38.new hn44
    have hbk51 := hS47.blk (i := 0) rfl
    have hS52 : Sep G W ((RowE (α := Ev) (shr G W) 59 vo l2) :: Rs) w46 := hS47.sel 2 [1] (Nat.le_add_left _ _) rfl rfl
    have hS53 : Sep G W ((RowE (α := Ev) (shr G W) 59 vo l2) :: Emp :: Rs) w46 := hS52.emp1
    refine st (yG (src := (shr G W)) (bytes := 96) (x1 := (l.getD k default)) hS53 el47 rfl rfl hbk51 (fun _ _ _ => (show _ from ⟨_, rfl, hde15_0, hoke15⟩)) (by first | omega | (simp only [List.length_append, List.length_cons, List.length_nil, List.length_take, List.length_drop]; omega)) rfl ?_)
    intro v49 w48 hS50
    have hr54 := hS50.row (i := 0) rfl
    have hr54s : _ * 96 ≤ _ := hr54.2
    refine st (ze (v := v49) rfl ?_)
    refine zf ?_
    refine za (by kernel_rfl) (fun _ => ?_)
    refine st (zb (v := .int .i64 ((k : Nat) : Int)) rfl ?_)
    have hr55 : InR ((k + 1 : Nat) : Int) := by first | omega | (simp only [lens]; omega)
    refine st (ye (r := ((k + 1 : Nat) : Int)) (k := .i64) (a := ((k : Nat) : Int)) (b := 1) rfl rfl (by rw [show (((k : Nat) : Int) + 1 : Int) = ((k + 1 : Nat) : Int) by first | omega | (simp only [lens]; omega)]; exact zQ hr55) ?_)
    refine st (ze (v := .int .i64 ((k + 1 : Nat) : Int)) rfl ?_)
    refine zf ?_
    exact ⟨_, by omega, k + 1, v49, (l2 ++ [(l.getD k default)]), _, rfl, zp ⟨rfl, rfl, rfl, rfl, trivial⟩, by omega, (by rw [List.length_append, List.length_singleton]; omega), (VM (P := fun e => Yt e n) hft (hck36 (by omega))), hS50⟩

end Go.Proofs.YtlblilbmpdejgaaDoor
