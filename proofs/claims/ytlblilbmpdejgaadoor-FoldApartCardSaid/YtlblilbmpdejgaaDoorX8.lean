import Derived.Test.YtlblilbmpdejgaaDoorX7
set_option linter.unusedSimpArgs false
set_option linter.unusedVariables false
set_option linter.unusedSectionVars false
set_option linter.deprecated false
/- Steps of the proofs of this seat: part F2. -/
set_option maxRecDepth 8000
set_option maxHeartbeats 4000000
namespace Go.Proofs.YtlblilbmpdejgaaDoor
open Go.Proofs Go.RowKit

theorem ZV {G : Nat → Prop} {W w : World} {Rs : List HP} {e : Ev} {de0 : Value} (hde0 : RdS W G de0 e.deps) (oe : e.Ok) (hS0 : Sep G W Rs w) : Ret Tryd.prog 60 [.agg (e.cells de0).toArray] w (fun r w' => ∃ (v : Value), r = (.agg (e.cells v).toArray : Value) ∧ Sep G W ((RowE (α := Int) own 3 v e.deps) :: Rs) w') := by
 have hde0s : _ * 8 ≤ _ := hde0.small
 refine zr (args := [.agg (e.cells de0).toArray]) Tryd.func60 rfl rfl ?_
 refine ze ?_
 refine za (by kernel_rfl) (fun _ => ?_)
 refine st (yd (v := .agg (e.cells de0).toArray) rfl ?_)
 intro w3 b2 hn1
 have hS4 := hS0.new hn1
 refine st (zH Tryd.zeroValue59 ?_)
 intro w7 b6 hn5
 have hS8 := hS4.new hn5
 refine zg ?_
 refine ze ?_
 refine za (by kernel_rfl) (fun _ => ?_)
 refine st (xG rfl ?_)
 refine st (zf (v := de0) Tryd.isAgg40 rfl (zh (hS8.blk (i := 1) rfl) rfl) ?_)
 refine st (zt (f := 54) (vals := [de0]) (cap := []) rfl rfl Tryd.call54 (Zo (l := e.deps) (vl := de0) hde0 hS8) ?_)
 rintro v9 w10 ⟨_, rfl, hS11⟩
 have hr12 := hS11.row (i := 0) rfl
 have hr12s : _ * 8 ≤ _ := hr12.2
 refine st (xG rfl ?_)
 refine stn (xj (v := v9) (c := [.int .i64 (e.origin), .int .i64 (e.seq), .int .i64 (e.lam), de0, .int .i64 (e.typ), .int .i64 (e.agg), .int .i64 (e.field), .int .i64 (e.op), .int .i64 (e.arg), .int .i64 (e.key)]) (c' := [.int .i64 (e.origin), .int .i64 (e.seq), .int .i64 (e.lam), v9, .int .i64 (e.typ), .int .i64 (e.agg), .int .i64 (e.field), .int .i64 (e.op), .int .i64 (e.arg), .int .i64 (e.key)]) Tryd.sizeOf40 rfl rfl (hS11.blk (i := 2) rfl) hr12.1.one rfl rfl ?_)
 intro w13 hp14
 have ok15 : Ev.Ok e := ⟨(show InR (e.origin) from oe.origin), (show InR (e.seq) from oe.seq), (show InR (e.lam) from oe.lam), (show InR (e.typ) from oe.typ), (show InR (e.agg) from oe.agg), (show InR (e.field) from oe.field), (show InR (e.op) from oe.op), (show InR (e.arg) from oe.arg), (show InR (e.key) from oe.key)⟩
 have hS16 := hS11.pt2 hp14
 refine zg ?_
 refine ze ?_
 refine za (by kernel_rfl) (fun _ => ?_)
 refine st (zn (k := 10) Tryd.isAgg59 Tryd.sizeOf59 rfl rfl (CellsAt.all (hS16.blk (i := 2) rfl)) ?_)
 refine stn (zF (v := .agg (e.cells v9).toArray) (c' := (e.cells v9).toArray) Tryd.sizeOf59 rfl rfl (hS16.blk (i := 1) rfl) (yp ⟨rfl, rfl, rfl, hr12.1.one, rfl, rfl, rfl, rfl, rfl, rfl, trivial⟩) (Nat.le_of_ble_eq_true rfl) rfl ?_)
 intro w17 hp18
 have hS19 := hS16.pt1 hp18
 refine zg ?_
 refine zv ?_
 refine Vy (b := b6) Tryd.results60 Tryd.isAgg59 Tryd.sizeOf59 rfl rfl (CellsAt.all (hS19.blk (i := 1) rfl)) ?_
 have hS20 : Sep G W ((RowE (α := Int) own 3 v9 e.deps) :: Rs) w17 := hS19.sel 3 [0] (Nat.le_add_left _ _) rfl rfl
 refine ⟨v9, rfl, hS20⟩

instance : Flat Prj := ⟨fun h => h⟩
theorem el23 : Elem Tryd.prog 23 107 5 40 := ⟨Tryd.underlying23, _, _, rfl, rfl, rfl, rfl, rfl⟩
theorem Wp {G : Nat → Prop} {W w : World} {Rs : List HP} {vl : Value} {l : List Prj} (hl : RdS W G vl l) (hS0 : Sep G W Rs w) : Ret Tryd.prog 87 [vl] w (fun r w' => ∃ (v : Value), r = (v : Value) ∧ Sep G W ((RowE (α := Prj) own 107 v l) :: Rs) w') := by
 have hls : _ * 40 ≤ _ := hl.small
 refine zr (args := [vl]) Tryd.func87 rfl rfl ?_
 refine ze ?_
 refine za (by kernel_rfl) (fun _ => ?_)
 refine st (zd (v := (.slice none 0 0)) rfl ?_)
 refine zg ?_
 refine ze ?_
 refine ze ?_
 refine za (by kernel_rfl) (fun _ => ?_)
 refine st (zb (v := vl) rfl ?_)
 refine st (xu (v := vl) Tryd.underlying23 rfl hl.sl ?_)
 refine zg ?_
 cases hc1 : xr vl
 ·skip
  refine zo rfl ?_
  refine zx ?_
  refine ze ?_
  refine za (by kernel_rfl) (fun _ => ?_)
  refine st (zI (k := 5) (parts' := []) (c := #[]) Tryd.underlying23 Tryd.sizeOf107 Tryd.zeroValue107 (by decide) rfl (by kernel_rfl) ?_)
  intro w4 b3 hn2
  have hS5 := hS0.new hn2
  refine st (zb (v := vl) rfl ?_)
  have hS9 : Sep G W ((RowE (α := Prj) own 107 (.slice (some ⟨b3, 0, none⟩) 0 0) ([] : List Prj)) :: Rs) w4 := Sep.blkRow (src := own) (l := ([] : List Prj)) (css := []) hS5 rfl trivial (by first | decide | (simp only [List.length_cons, List.length_nil]; decide))
  have hr10 := hS9.row (i := 0) rfl
  have hr10s : _ * 40 ≤ _ := hr10.2
  refine st (yQ (src := own) (bytes := 40) hS9 el23 rfl rfl hl (by first | omega | (simp only [List.length_append, List.length_cons, List.length_nil, List.length_take, List.length_drop]; omega)) rfl (hq' := fun _ _ h _ _ => Yd h) ?_)
  intro v7 w6 hS8
  have hS8 : Sep G W ((RowE (α := Prj) own 107 v7 l) :: Rs) w6 := hS8
  have hr11 := hS8.row (i := 0) rfl
  have hr11s : _ * 40 ≤ _ := hr11.2
  refine st (zd (v := v7) rfl ?_)
  refine zg ?_
  refine zv ?_
  refine zX Tryd.results87 (show _ = (v7 : Value) from rfl) ?_
  refine ⟨v7, rfl, hS8⟩
 ·skip
  have hl0 := Ze hl.sl hc1
  refine zp rfl ?_
  refine ze ?_
  refine za (by kernel_rfl) (fun _ => ?_)
  refine st (zd (v := (.slice none 0 0)) rfl ?_)
  refine zg ?_
  refine zv ?_
  refine zX Tryd.results87 (show _ = ((.slice none 0 0) : Value) from rfl) ?_
  have hS12 : Sep G W ((RowE (α := Prj) own 107 (.slice none 0 0) ([] : List Prj)) :: Rs) w := hS0.rowNil own 107
  have hl1 : l = [] := List.length_eq_zero_iff.1 hl0
  subst hl1
  refine ⟨(.slice none 0 0), rfl, hS12⟩

theorem el31 : Elem Tryd.prog 31 79 4 48 := ⟨Tryd.underlying31, _, _, rfl, rfl, rfl, rfl, rfl⟩
theorem Wn {G : Nat → Prop} {W w : World} {Rs : List HP} {vl : Value} {l : List Fld} (hl : RdS W G vl l) (hS0 : Sep G W Rs w) : Ret Tryd.prog 88 [vl] w (fun r w' => ∃ (v : Value), r = (v : Value) ∧ Sep G W ((RowE (α := Fld) (shr G W) 79 v l) :: Rs) w') := by
 have hls : _ * 48 ≤ _ := hl.small
 refine zr (args := [vl]) Tryd.func88 rfl rfl ?_
 refine ze ?_
 refine za (by kernel_rfl) (fun _ => ?_)
 refine st (zd (v := (.slice none 0 0)) rfl ?_)
 refine zg ?_
 refine ze ?_
 refine ze ?_
 refine za (by kernel_rfl) (fun _ => ?_)
 refine st (zb (v := vl) rfl ?_)
 refine st (xu (v := vl) Tryd.underlying31 rfl hl.sl ?_)
 refine zg ?_
 cases hc1 : xr vl
 ·skip
  refine zo rfl ?_
  refine zx ?_
  refine ze ?_
  refine za (by kernel_rfl) (fun _ => ?_)
  refine st (zI (k := 4) (parts' := []) (c := #[]) Tryd.underlying31 Tryd.sizeOf79 Tryd.zeroValue79 (by decide) rfl (by kernel_rfl) ?_)
  intro w4 b3 hn2
  have hS5 := hS0.new hn2
  refine st (zb (v := vl) rfl ?_)
  have hS9 : Sep G W ((RowE (α := Fld) (shr G W) 79 (.slice (some ⟨b3, 0, none⟩) 0 0) ([] : List Fld)) :: Rs) w4 := Sep.blkRow (src := (shr G W)) (l := ([] : List Fld)) (css := []) hS5 rfl trivial (by first | decide | (simp only [List.length_cons, List.length_nil]; decide))
  have hr10 := hS9.row (i := 0) rfl
  have hr10s : _ * 48 ≤ _ := hr10.2
  refine st (yQ (src := (shr G W)) (bytes := 48) hS9 el31 rfl rfl hl (by first | omega | (simp only [List.length_append, List.length_cons, List.length_nil, List.length_take, List.length_drop]; omega)) rfl (hq' := fun _ _ h _ _ => h) ?_)
  intro v7 w6 hS8
  have hS8 : Sep G W ((RowE (α := Fld) (shr G W) 79 v7 l) :: Rs) w6 := hS8
  have hr11 := hS8.row (i := 0) rfl
  have hr11s : _ * 48 ≤ _ := hr11.2
  refine st (zd (v := v7) rfl ?_)
  refine zg ?_
  refine zv ?_
  refine zX Tryd.results88 (show _ = (v7 : Value) from rfl) ?_
  refine ⟨v7, rfl, hS8⟩
 ·skip
  have hl0 := Ze hl.sl hc1
  refine zp rfl ?_
  refine ze ?_
  refine za (by kernel_rfl) (fun _ => ?_)
  refine st (zd (v := (.slice none 0 0)) rfl ?_)
  refine zg ?_
  refine zv ?_
  refine zX Tryd.results88 (show _ = ((.slice none 0 0) : Value) from rfl) ?_
  have hS12 : Sep G W ((RowE (α := Fld) (shr G W) 79 (.slice none 0 0) ([] : List Fld)) :: Rs) w := hS0.rowNil (shr G W) 79
  have hl1 : l = [] := List.length_eq_zero_iff.1 hl0
  subst hl1
  refine ⟨(.slice none 0 0), rfl, hS12⟩

theorem Qt : Elem Tryd.prog 66 62 13 120 := ⟨Tryd.underlying66, _, _, rfl, rfl, rfl, rfl, rfl⟩
theorem WB {G : Nat → Prop} {W w : World} {Rs : List HP} {vl : Value} {l : List Ent} (hl : RdS W G vl l) (hS0 : Sep G W Rs w) : Ret Tryd.prog 65 [vl] w (fun r w' => ∃ (v : Value), r = (v : Value) ∧ Sep G W ((RowE (α := Ent) (shr G W) 62 v l) :: Rs) w') := by
 have hls : _ * 120 ≤ _ := hl.small
 refine zr (args := [vl]) Tryd.func65 rfl rfl ?_
 refine ze ?_
 refine za (by kernel_rfl) (fun _ => ?_)
 refine st (zd (v := (.slice none 0 0)) rfl ?_)
 refine zg ?_
 refine ze ?_
 refine ze ?_
 refine za (by kernel_rfl) (fun _ => ?_)
 refine st (zb (v := vl) rfl ?_)
 refine st (xu (v := vl) Tryd.underlying66 rfl hl.sl ?_)
 refine zg ?_
 cases hc1 : xr vl
 ·skip
  refine zo rfl ?_
  refine zx ?_
  refine ze ?_
  refine za (by kernel_rfl) (fun _ => ?_)
  refine st (zI (k := 13) (parts' := []) (c := #[]) Tryd.underlying66 Tryd.sizeOf62 Tryd.zeroValue62 (by decide) rfl (by kernel_rfl) ?_)
  intro w4 b3 hn2
  have hS5 := hS0.new hn2
  refine st (zb (v := vl) rfl ?_)
  have hS9 : Sep G W ((RowE (α := Ent) (shr G W) 62 (.slice (some ⟨b3, 0, none⟩) 0 0) ([] : List Ent)) :: Rs) w4 := Sep.blkRow (src := (shr G W)) (l := ([] : List Ent)) (css := []) hS5 rfl trivial (by first | decide | (simp only [List.length_cons, List.length_nil]; decide))
  have hr10 := hS9.row (i := 0) rfl
  have hr10s : _ * 120 ≤ _ := hr10.2
  refine st (yQ (src := (shr G W)) (bytes := 120) hS9 Qt rfl rfl hl (by first | omega | (simp only [List.length_append, List.length_cons, List.length_nil, List.length_take, List.length_drop]; omega)) rfl (hq' := fun _ _ h _ _ => h) ?_)
  intro v7 w6 hS8
  have hS8 : Sep G W ((RowE (α := Ent) (shr G W) 62 v7 l) :: Rs) w6 := hS8
  have hr11 := hS8.row (i := 0) rfl
  have hr11s : _ * 120 ≤ _ := hr11.2
  refine st (zd (v := v7) rfl ?_)
  refine zg ?_
  refine zv ?_
  refine zX Tryd.results65 (show _ = (v7 : Value) from rfl) ?_
  refine ⟨v7, rfl, hS8⟩
 ·skip
  have hl0 := Ze hl.sl hc1
  refine zp rfl ?_
  refine ze ?_
  refine za (by kernel_rfl) (fun _ => ?_)
  refine st (zd (v := (.slice none 0 0)) rfl ?_)
  refine zg ?_
  refine zv ?_
  refine zX Tryd.results65 (show _ = ((.slice none 0 0) : Value) from rfl) ?_
  have hS12 : Sep G W ((RowE (α := Ent) (shr G W) 62 (.slice none 0 0) ([] : List Ent)) :: Rs) w := hS0.rowNil (shr G W) 62
  have hl1 : l = [] := List.length_eq_zero_iff.1 hl0
  subst hl1
  refine ⟨(.slice none 0 0), rfl, hS12⟩

theorem yK {d : Option Tmp} {ty : TypeId} {pos : String} {af : Array Edge} {g : Option (Nat × Bool)} {σ : Env} {w : World} {K : Value → World → Prop} {x : Operand} {b o : Nat} (hx : ev σ x = .pointer (some ⟨b, o, none⟩)) (h : K (.pointer (some ⟨b, o + 1, none⟩)) w) : opV Tryd.prog ⟨d, .fieldAddr 68 x 1, ty, pos, af, g⟩ σ w K := zw Tryd.underlying68 rfl rfl (fun w => ⟨0, Tryd.sizeOf26 w⟩) hx h
theorem Uo {G : Nat → Prop} {W w : World} {Rs : List HP} {x : Sta} {dx0 : Value} (hdx0 : RdS W G dx0 x.cls) (ox : x.Ok) (hS0 : Sep G W Rs w) : Ret Tryd.prog 63 [.agg (x.cells dx0).toArray] w (fun r w' => ∃ (v : Value), r = (.agg (x.cells v).toArray : Value) ∧ Sep G W ((RowE (α := Cel) own 42 v x.cls) :: Rs) w') := by
 have hdx0s : _ * 32 ≤ _ := hdx0.small
 refine zr (args := [.agg (x.cells dx0).toArray]) Tryd.func63 rfl rfl ?_
 refine ze ?_
 refine za (by kernel_rfl) (fun _ => ?_)
 refine st (yd (v := .agg (x.cells dx0).toArray) rfl ?_)
 intro w3 b2 hn1
 have hS4 := hS0.new hn1
 refine st (zH Tryd.zeroValue68 ?_)
 intro w7 b6 hn5
 have hS8 := hS4.new hn5
 refine zg ?_
 refine ze ?_
 refine za (by kernel_rfl) (fun _ => ?_)
 refine st (yK rfl ?_)
 refine st (zf (v := dx0) Tryd.isAgg26 rfl (zh (hS8.blk (i := 1) rfl) rfl) ?_)
 refine st (zt (f := 53) (vals := [dx0]) (cap := []) rfl rfl Tryd.call53 (Yi (l := x.cls) (vl := dx0) hdx0 hS8) ?_)
 rintro v9 w10 ⟨_, rfl, hS11⟩
 have hr12 := hS11.row (i := 0) rfl
 have hr12s : _ * 32 ≤ _ := hr12.2
 refine st (yK rfl ?_)
 refine stn (xj (v := v9) (c := [.int .i64 (x.ver), dx0]) (c' := [.int .i64 (x.ver), v9]) Tryd.sizeOf26 rfl rfl (hS11.blk (i := 2) rfl) hr12.1.one rfl rfl ?_)
 intro w13 hp14
 have ok15 : Sta.Ok x := ⟨(show InR (x.ver) from ox.ver)⟩
 have hS16 := hS11.pt2 hp14
 refine zg ?_
 refine ze ?_
 refine ze ?_
 refine za (by kernel_rfl) (fun _ => ?_)
 refine st (yK rfl ?_)
 refine st (zf (v := v9) Tryd.isAgg26 rfl (zh (hS16.blk (i := 2) rfl) rfl) ?_)
 refine st (zK (n := x.cls.length) Tryd.underlying26 rfl hr12.1 ?_)
 refine st (zb (v := .int .i64 (0)) rfl ?_)
 refine zg ?_
 refine zC ?_
 have hS17 := hS16.toMix
 refine yw (fun mq σ wq => ∃ (k : Nat) (ρ : Env), mq = x.cls.length - k ∧ σ = yx ρ [(1, .pointer (some ⟨b2, 0, none⟩)), (2, .pointer (some ⟨b6, 0, none⟩)), (10, .int .i64 ((x.cls.length : Nat) : Int)), (11, .int .i64 ((k : Nat) : Int))] ∧ (k ≤ x.cls.length) ∧ Sep G W ((RowE (α := Bool × Cel) (mix (α := Cel) G W) 42 v9 (xm k x.cls)) :: (Blk b6 #[.int .i64 (0), (.slice none 0 0)] 68) :: (Blk b2 (x.cells v9).toArray 68) :: Rs) wq) ⟨0, _, rfl, zu ⟨rfl, rfl, rfl, rfl, trivial⟩, Nat.zero_le _, hS17⟩ ?_
 rintro m19 σ20 w18 ⟨k, ρl1, rfl, rfl, hkk, hS21⟩
 have hr22 := hS21.row (i := 0) rfl
 rw [xd] at hr22
 refine ze ?_
 refine za (by kernel_rfl) (fun _ => ?_)
 refine st (zU (k := .i64) (a := ((k : Nat) : Int)) (b := ((x.cls.length : Nat) : Int)) rfl rfl ?_)
 refine zg ?_
 refine ze ?_
 cases hc23 : decide (((k : Nat) : Int) < ((x.cls.length : Nat) : Int))
 ·skip
  have hc23 := of_decide_eq_false hc23
  have hS24 : Sep G W ((RowE (α := Cel) own 42 v9 x.cls) :: (Blk b6 #[.int .i64 (0), (.slice none 0 0)] 68) :: (Blk b2 (x.cells v9).toArray 68) :: Rs) w18 := hS21.ofMix (by omega)
  have hr25 := hS24.row (i := 0) rfl
  have hr25s : _ * 32 ≤ _ := hr25.2
  refine zo rfl ?_
  refine yv ?_
  refine yo ?_
  refine ze ?_
  refine za (by kernel_rfl) (fun _ => ?_)
  refine st (zn (k := 2) Tryd.isAgg68 Tryd.sizeOf68 rfl rfl (CellsAt.all (hS24.blk (i := 2) rfl)) ?_)
  refine stn (zF (v := .agg (x.cells v9).toArray) (c' := (x.cells v9).toArray) Tryd.sizeOf68 rfl rfl (hS24.blk (i := 1) rfl) (yp ⟨rfl, hr25.1.one, trivial⟩) (Nat.le_of_ble_eq_true rfl) rfl ?_)
  intro w26 hp27
  have hS28 := hS24.pt1 hp27
  refine zg ?_
  refine zv ?_
  refine Vy (b := b6) Tryd.results63 Tryd.isAgg68 Tryd.sizeOf68 rfl rfl (CellsAt.all (hS28.blk (i := 1) rfl)) ?_
  have hS29 : Sep G W ((RowE (α := Cel) own 42 v9 x.cls) :: Rs) w26 := hS28.sel 3 [0] (Nat.le_add_left _ _) rfl rfl
  refine ⟨v9, rfl, hS29⟩
 ·skip
  have hc23 := of_decide_eq_true hc23
  refine zp rfl ?_
  refine zx ?_
  refine ze ?_
  refine zC ?_
  refine ze ?_
  refine za (by kernel_rfl) (fun _ => ?_)
  refine st (zb (v := .int .i64 ((k : Nat) : Int)) rfl ?_)
  refine st (zd (v := .int .i64 ((k : Nat) : Int)) rfl ?_)
  refine zg ?_
  refine zT ((fun TT pp0 => WF [fun vals wq => Sep G W (pp0 :: TT) wq, fun vals wq => ∃ (de95_0 : Value), (vals 8 = (de95_0 : Value)) ∧ (RdS W G de95_0 (x.cls.getD k default).set) ∧ (Cel.Ok (x.cls.getD k default)) ∧ Sep G W (pp0 :: TT) wq, fun vals wq => ∃ (de95_0 : Value) (v105 : Value), (vals 8 = (de95_0 : Value)) ∧ (vals 9 = (v105 : Value)) ∧ (RdS W G de95_0 (x.cls.getD k default).set) ∧ (Cel.Ok (x.cls.getD k default)) ∧ Sep G W ((RowE (α := Int) own 3 v105 ((x.cls.getD k default).set)) :: pp0 :: TT) wq, fun vals wq => ∃ (de95_0 : Value) (v105 : Value), (vals 8 = (de95_0 : Value)) ∧ (vals 9 = (v105 : Value)) ∧ (RdS W G de95_0 (x.cls.getD k default).set) ∧ (Cel.Ok (x.cls.getD k default)) ∧ Sep G W ((RowE (α := Bool × Cel) (mix (α := Cel) G W) 42 v9 (xm (k + 1) x.cls)) :: TT) wq]) ((Blk b6 #[.int .i64 (0), (.slice none 0 0)] 68) :: (Blk b2 (x.cells v9).toArray 68) :: Rs) (RowE (α := Bool × Cel) (mix (α := Cel) G W) 42 v9 (xm k x.cls))) (AF [Vl 0 (.pointer (some ⟨b2, 1, none⟩)), Vl 1 (v9), Vl 2 (.int .i64 ((k : Nat) : Int)), Vl 3 (.pointer (some ⟨b2, 1, none⟩)), Vl 4 (v9), Vl 5 (.int .i64 ((k : Nat) : Int)), Vl 6 (.pointer (some ⟨sb v9, so v9 + k * 2, none⟩)), Vl 7 (.pointer (some ⟨sb v9, so v9 + k * 2 + 1, none⟩)), fun _ => True, fun _ => True, Vl 10 (.pointer (some ⟨sb v9, so v9 + k * 2, none⟩)), Vl 11 (.pointer (some ⟨sb v9, so v9 + k * 2 + 1, none⟩)), fun _ => True]) [[], [0], [], [], [3], [], [3, 4, 5], [3, 4, 5, 6], [3, 4, 5, 6, 7], [3, 4, 5, 6, 7, 8], [0, 1, 2, 3, 4, 5, 6, 7, 8, 9], [0, 1, 2, 3, 4, 5, 6, 7, 8, 9, 10], [0, 1, 2, 3, 4, 5, 6, 7, 8, 9, 10, 11]] [8, 9, 12] [(0, 2), (0, 2), (0, 2), (0, 0), (0, 0), (0, 0), (0, 0), (0, 0), (0, 0), (1, 1), (2, 2), (2, 2), (2, 2)] (by kernel_rfl) (by kernel_rfl) (by kernel_rfl) rfl (by kernel_rfl) (by kernel_rfl) (fun _ h1 h2 h3 h4 _ => hS21.same h1 h2 h3 h4) ?_ (yj ⟨dA, dA, dA, dA, dA, dA, dA, dA, dT, dT, dA, dA, dT, trivial⟩) ⟨?_, ?_, ?_, ?_, ?_, ?_, ?_, ?_, ?_, ?_, ?_, ?_, ?_, trivial⟩ ?_
  ·intro k vals vals' w hv h
   have e : ∀ j ∈ ([8, 9, 12] : List Nat), vals' j = vals j := hv
   match k, h with
   | 0, h => exact h
   | 1, h => exact (by simpa only [WF, List.getElem?_cons_zero, List.getElem?_cons_succ, e 8 (by decide)] using h)
   | 2, h => exact (by simpa only [WF, List.getElem?_cons_zero, List.getElem?_cons_succ, e 8 (by decide), e 9 (by decide)] using h)
   | 3, h => exact (by simpa only [WF, List.getElem?_cons_zero, List.getElem?_cons_succ, e 8 (by decide), e 9 (by decide)] using h)
   | _ + 4, _ => trivial
  ·intro k141 vals w142 h145 h146 hW144 hA143
   refine obl rfl ?_
   exact yK rfl (fun vals' hv _ => ⟨rfl, hv⟩)
  ·intro k147 vals w148 h151 h152 hW150 hA149
   have hkk : k147 = 0 ∨ k147 = 1 ∨ k147 = 2 := by have h1 : 0 ≤ k147 := h151; have h2 : k147 ≤ 2 := h152; omega
   rcases hkk with rfl | rfl | rfl
   ·skip
    have hS153 : Sep _ _ _ _ := hW150
    have e154 := hA149 0 (by decide)
    refine obl rfl ?_
    exact zf (v := v9) Tryd.isAgg26 e154 (zh (hS153.blk (i := 2) rfl) rfl) (fun vals' hv _ => ⟨rfl, hv⟩)
   ·skip
    obtain ⟨de95_0, he97, hde95_0, hoke95, hS155⟩ := hW150
    have e156 := hA149 0 (by decide)
    refine obl rfl ?_
    exact zf (v := v9) Tryd.isAgg26 e156 (zh (hS155.blk (i := 2) rfl) rfl) (fun vals' hv _ => ⟨rfl, hv⟩)
   ·skip
    obtain ⟨de95_0, v105, he97, he109, hde95_0, hoke95, hS157⟩ := hW150
    have e158 := hA149 0 (by decide)
    refine obl rfl ?_
    exact zf (v := v9) Tryd.isAgg26 e158 (zh (hS157.blk (i := 3) rfl) rfl) (fun vals' hv _ => ⟨rfl, hv⟩)
  ·intro k159 vals w160 h163 h164 hW162 hA161
   refine obl rfl ?_
   exact zb (v := .int .i64 ((k : Nat) : Int)) rfl (fun vals' hv _ => ⟨rfl, hv⟩)
  ·intro k165 vals w166 h169 h170 hW168 hA167
   refine obl rfl ?_
   exact yK rfl (fun vals' hv _ => ⟨rfl, hv⟩)
  ·intro k171 vals w172 h175 h176 hW174 hA173
   obtain rfl : k171 = 0 := Nat.le_antisymm h176 h175
   have hS177 : Sep _ _ _ _ := hW174
   have e178 := hA173 3 (by decide)
   refine obl rfl ?_
   exact zf (v := v9) Tryd.isAgg26 e178 (zh (hS177.blk (i := 2) rfl) rfl) (fun vals' hv _ => ⟨rfl, hv⟩)
  ·intro k179 vals w180 h183 h184 hW182 hA181
   refine obl rfl ?_
   exact zb (v := .int .i64 ((k : Nat) : Int)) rfl (fun vals' hv _ => ⟨rfl, hv⟩)
  ·intro k185 vals w186 h189 h190 hW188 hA187
   obtain rfl : k185 = 0 := Nat.le_antisymm h190 h189
   have hS191 : Sep _ _ _ _ := hW188
   have e192 := hA187 4 (by decide)
   have e193 := hA187 5 (by decide)
   refine obl rfl ?_
   have hi194 : k < x.cls.length := (by first | omega | (simp only [zq]; omega))
   exact zj (k := 2) (i := k) Tryd.underlying26 Tryd.sizeOf42 e192 hr22.1 e193 hi194 (fun vals' hv _ => ⟨rfl, hv⟩)
  ·intro k195 vals w196 h199 h200 hW198 hA197
   have e201 := hA197 6 (by decide)
   refine obl rfl ?_
   exact xe e201 (fun vals' hv _ => ⟨rfl, hv⟩)
  ·intro k87 vals w88 h91 h92 hW90 hA89
   obtain rfl : k87 = 0 := Nat.le_antisymm h92 h91
   have hS93 : Sep _ _ _ _ := hW90
   have e94 := hA89 7 (by decide)
   refine obl rfl ?_
   have hi96 : k < x.cls.length := (by first | omega | (simp only [zq]; omega))
   obtain ⟨_, hce95, de95_0, rfl, hde95_0, hoke95⟩ := hS93.mixAt (i := 0) (j := k) rfl (Nat.le_refl _) hi96
   rw [← zl default hi96] at hce95 hde95_0 hoke95
   refine (zf (v := de95_0) Tryd.isAgg40 e94 (hce95.get (j := 1) rfl) ?_)
   intro vals' hv hv'
   refine ⟨?_, trivial⟩
   show ∃ (de95_0 : Value), (vals' 8 = (de95_0 : Value)) ∧ (RdS W G de95_0 (x.cls.getD k default).set) ∧ (Cel.Ok (x.cls.getD k default)) ∧ Sep G W ((RowE (α := Bool × Cel) (mix (α := Cel) G W) 42 v9 (xm k x.cls)) :: (Blk b6 #[.int .i64 (0), (.slice none 0 0)] 68) :: (Blk b2 (x.cells v9).toArray 68) :: Rs) w88
   exact ⟨de95_0, hv, hde95_0, hoke95, hS93⟩
  ·intro k98 vals w99 h102 h103 hW101 hA100
   obtain rfl : k98 = 1 := Nat.le_antisymm h103 h102
   obtain ⟨de95_0, he97, hde95_0, hoke95, hS104⟩ := hW101
   refine obl rfl ?_
   refine (zt (f := 54) (vals := [de95_0]) (cap := []) rfl (yV ⟨he97, trivial⟩) Tryd.call54 (Zo (l := (x.cls.getD k default).set) (vl := de95_0) hde95_0 hS104) ?_)
   rintro v105 w106 ⟨_, rfl, hS107⟩
   have hr108 := hS107.row (i := 0) rfl
   have hr108s : _ * 8 ≤ _ := hr108.2
   intro vals' hv hv'
   refine ⟨?_, trivial⟩
   show ∃ (de95_0 : Value) (v105 : Value), (vals' 8 = (de95_0 : Value)) ∧ (vals' 9 = (v105 : Value)) ∧ (RdS W G de95_0 (x.cls.getD k default).set) ∧ (Cel.Ok (x.cls.getD k default)) ∧ Sep G W ((RowE (α := Int) own 3 v105 ((x.cls.getD k default).set)) :: (RowE (α := Bool × Cel) (mix (α := Cel) G W) 42 v9 (xm k x.cls)) :: (Blk b6 #[.int .i64 (0), (.slice none 0 0)] 68) :: (Blk b2 (x.cells v9).toArray 68) :: Rs) w106
   exact ⟨de95_0, v105, (by rw [hv' 8 (by decide)]; exact he97), hv, hde95_0, hoke95, hS107⟩
  ·intro k202 vals w203 h206 h207 hW205 hA204
   obtain rfl : k202 = 2 := Nat.le_antisymm h207 h206
   obtain ⟨de95_0, v105, he97, he109, hde95_0, hoke95, hS208⟩ := hW205
   have e209 := hA204 1 (by decide)
   have e210 := hA204 2 (by decide)
   refine obl rfl ?_
   have hi211 : k < x.cls.length := (by first | omega | (simp only [zq]; omega))
   exact zj (k := 2) (i := k) Tryd.underlying26 Tryd.sizeOf42 e209 hr22.1 e210 hi211 (fun vals' hv _ => ⟨rfl, hv⟩)
  ·intro k212 vals w213 h216 h217 hW215 hA214
   have e218 := hA214 10 (by decide)
   refine obl rfl ?_
   exact xe e218 (fun vals' hv _ => ⟨rfl, hv⟩)
  ·intro k127 vals w128 h131 h132 hW130 hA129
   obtain rfl : k127 = 2 := Nat.le_antisymm h132 h131
   obtain ⟨de95_0, v105, he97, he109, hde95_0, hoke95, hS133⟩ := hW130
   have e134 := hA129 11 (by decide)
   refine obl rfl ?_
   have hS136 := hS133.mv1
   have hi138 : k < x.cls.length := (by first | omega | (simp only [zq]; omega))
   have hr139 := hS136.row (i := 1) rfl
   have hr139s : _ * 8 ≤ _ := hr139.2
   refine (ZH (α := Cel) (j := k) (o := 1) (u := v105) (us := [v105]) hS136 Tryd.sizeOf40 hi138 e134 he109 (congrArg Array.toList (yL hr139.1.one)) (Nat.le_of_ble_eq_true rfl) (yp ⟨hr139.1.one, trivial⟩) (fun w f cs0 hr hN => (by obtain ⟨d, rfl, hd, hok⟩ := hr; exact ⟨_, rfl, (by rw [← zl default hi138]; exact RowE.soft hN), hok⟩)) ?_)
   intro w135 hS140
   intro vals' hv hv'
   refine ⟨?_, trivial⟩
   show ∃ (de95_0 : Value) (v105 : Value), (vals' 8 = (de95_0 : Value)) ∧ (vals' 9 = (v105 : Value)) ∧ (RdS W G de95_0 (x.cls.getD k default).set) ∧ (Cel.Ok (x.cls.getD k default)) ∧ Sep G W ((RowE (α := Bool × Cel) (mix (α := Cel) G W) 42 v9 (xm (k + 1) x.cls)) :: (Blk b6 #[.int .i64 (0), (.slice none 0 0)] 68) :: (Blk b2 (x.cells v9).toArray 68) :: Rs) w135
   exact ⟨de95_0, v105, (by rw [hv' 8 (by decide)]; exact he97), (by rw [hv' 9 (by decide)]; exact he109), hde95_0, hoke95, hS140⟩
  intro vals w219 hW220 hA221
  obtain ⟨de95_0, v105, he97, he109, hde95_0, hoke95, hS222⟩ := hW220
  refine yi (kv := [(1, .pointer (some ⟨b2, 0, none⟩)), (2, .pointer (some ⟨b6, 0, none⟩)), (10, .int .i64 ((x.cls.length : Nat) : Int)), (11, .int .i64 ((k : Nat) : Int)), (12, .bool true), (13, .int .i64 ((k : Nat) : Int)), (3, .int .i64 ((k : Nat) : Int))]) ⟨rfl, rfl, rfl, rfl, rfl, rfl, rfl, trivial⟩ (fun ρw219 => ?_)
  refine zg ?_
  refine za (by kernel_rfl) (fun _ => ?_)
  have hr223 : InR ((k + 1 : Nat) : Int) := by first | omega | (simp only [zq]; omega)
  refine st (yg (r := ((k + 1 : Nat) : Int)) (k := .i64) (a := ((k : Nat) : Int)) (b := 1) rfl rfl (by rw [show (((k : Nat) : Int) + 1 : Int) = ((k + 1 : Nat) : Int) by first | omega | (simp only [zq]; omega)]; exact zO hr223) ?_)
  refine st (zb (v := .int .i64 ((k + 1 : Nat) : Int)) rfl ?_)
  refine zg ?_
  exact ⟨_, by omega, k + 1, _, rfl, zu ⟨rfl, rfl, rfl, rfl, trivial⟩, by omega, hS222⟩

end Go.Proofs.YtlblilbmpdejgaaDoor
/- Steps of the proofs of this seat: part F3. -/
set_option maxRecDepth 8000
set_option maxHeartbeats 4000000
namespace Go.Proofs.YtlblilbmpdejgaaDoor
open Go.Proofs Go.RowKit

theorem el22 : Elem Tryd.prog 22 33 1 24 := ⟨Tryd.underlying22, _, _, rfl, rfl, rfl, rfl, rfl⟩
theorem WD {G : Nat → Prop} {W w : World} {Rs : List HP} {d : Dcl} {dd0 : Value} (hdd0 : RdS W G dd0 d.types) {dd1 : Value} (hdd1 : RdS W G dd1 d.projs) (od : d.Ok) (hS0 : Sep G W Rs w) : Ret Tryd.prog 57 [.agg (d.cells dd0 dd1).toArray] w (fun r w' => ∃ (v1 : Value) (v2 : Value), r = (.agg (d.cells v1 v2).toArray : Value) ∧ Sep G W ((RowE (α := Typ) own 33 v1 d.types) :: (RowE (α := Prj) own 107 v2 d.projs) :: Rs) w') := by
 have hdd0s : _ * 24 ≤ _ := hdd0.small
 have hdd1s : _ * 40 ≤ _ := hdd1.small
 refine zr (args := [.agg (d.cells dd0 dd1).toArray]) Tryd.func57 rfl rfl ?_
 refine ze ?_
 refine za (by kernel_rfl) (fun _ => ?_)
 refine st (yd (v := .agg (d.cells dd0 dd1).toArray) rfl ?_)
 intro w3 b2 hn1
 have hS4 := hS0.new hn1
 refine st (zH Tryd.zeroValue25 ?_)
 intro w7 b6 hn5
 have hS8 := hS4.new hn5
 refine zg ?_
 refine ze ?_
 refine za (by kernel_rfl) (fun _ => ?_)
 refine st (Yv rfl ?_)
 refine st (zf (v := dd1) Tryd.isAgg23 rfl (zh (hS8.blk (i := 1) rfl) rfl) ?_)
 refine st (zt (f := 87) (vals := [dd1]) (cap := []) rfl rfl Tryd.call87 (Wp (l := d.projs) (vl := dd1) hdd1 hS8) ?_)
 rintro v9 w10 ⟨_, rfl, hS11⟩
 have hr12 := hS11.row (i := 0) rfl
 have hr12s : _ * 40 ≤ _ := hr12.2
 have ok13 : Dcl.Ok (⟨[], d.projs⟩ : Dcl) := ⟨⟩
 refine st (ye (parts' := [(1, v9)]) (v := .agg ((⟨[], d.projs⟩ : Dcl).cells (.slice none 0 0) v9).toArray) rfl (by obtain ⟨_, _, hv14, _⟩ := hr12.1; rw [show v9 = Value.slice _ _ _ from hv14]; simp [Instr.build, Instr.fill, Ev.cells, go_sem, Mv.cells, Fld.cells, Typ.cells, Prj.cells, Dcl.cells, Cel.cells, AskR.cells, Ask.cells, CelS.cells, Ev.cells, Ent.cells, Sta.cells]) ?_)
 refine st (zH Tryd.zeroValue25 ?_)
 intro w17 b16 hn15
 have hS18 := hS11.new hn15
 refine stn (zF (v := .agg ((⟨[], d.projs⟩ : Dcl).cells (.slice none 0 0) v9).toArray) (c' := ((⟨[], d.projs⟩ : Dcl).cells (.slice none 0 0) v9).toArray) Tryd.sizeOf25 rfl rfl (hS18.blk (i := 0) rfl) (yp ⟨rfl, hr12.1.one, trivial⟩) (Nat.le_of_ble_eq_true rfl) rfl ?_)
 intro w19 hp20
 have hS21 := hS18.pt0 hp20
 refine zg ?_
 refine ze ?_
 refine ze ?_
 refine za (by kernel_rfl) (fun _ => ?_)
 refine st (yC rfl ?_)
 refine st (zf (v := dd0) Tryd.isAgg22 rfl (zh (hS21.blk (i := 3) rfl) rfl) ?_)
 refine st (zK (n := d.types.length) Tryd.underlying22 rfl hdd0.sl ?_)
 refine st (zb (v := .int .i64 (0)) rfl ?_)
 refine zg ?_
 refine zC ?_
 have hS22 : Sep G W ((RowE (α := Typ) own 33 (.slice none 0 0) ([] : List Typ)) :: (Blk b16 ((⟨[], d.projs⟩ : Dcl).cells (.slice none 0 0) v9).toArray 25) :: (RowE (α := Prj) own 107 v9 d.projs) :: (Blk b6 #[(.slice none 0 0), (.slice none 0 0)] 25) :: (Blk b2 (d.cells dd0 dd1).toArray 25) :: Rs) w19 := hS21.rowNil own 33
 refine yw (fun mq σ wq => ∃ (k : Nat) (vo : Value) (ρ : Env), mq = d.types.length - k ∧ σ = yx ρ [(1, .pointer (some ⟨b2, 0, none⟩)), (2, .pointer (some ⟨b6, 0, none⟩)), (3, .pointer (some ⟨b16, 0, none⟩)), (13, dd0), (14, .int .i64 ((d.types.length : Nat) : Int)), (15, .int .i64 ((k : Nat) : Int))] ∧ (k ≤ d.types.length) ∧ Sep G W ((RowE (α := Typ) own 33 vo (d.types.take k)) :: (Blk b16 #[vo, v9] 25) :: (RowE (α := Prj) own 107 v9 d.projs) :: (Blk b6 #[(.slice none 0 0), (.slice none 0 0)] 25) :: (Blk b2 (d.cells dd0 dd1).toArray 25) :: Rs) wq) ⟨0, (.slice none 0 0), _, rfl, zu ⟨rfl, rfl, rfl, rfl, rfl, rfl, trivial⟩, Nat.zero_le _, hS22⟩ ?_
 rintro m24 σ25 w23 ⟨k, vo, ρl1, rfl, rfl, hkk, hS26⟩
 have hr27 := hS26.row (i := 0) rfl
 have hr27s : _ * 24 ≤ _ := hr27.2
 refine ze ?_
 refine za (by kernel_rfl) (fun _ => ?_)
 refine st (zU (k := .i64) (a := ((k : Nat) : Int)) (b := ((d.types.length : Nat) : Int)) rfl rfl ?_)
 refine zg ?_
 refine ze ?_
 cases hc28 : decide (((k : Nat) : Int) < ((d.types.length : Nat) : Int))
 ·skip
  have hc28 := of_decide_eq_false hc28
  have hkn : k = d.types.length := by omega
  rw [hkn, List.take_of_length_le (Nat.le_refl d.types.length)] at hS26
  have hr29 := hS26.row (i := 0) rfl
  have hr29s : _ * 24 ≤ _ := hr29.2
  refine zo rfl ?_
  refine yv ?_
  refine yo ?_
  refine ze ?_
  refine za (by kernel_rfl) (fun _ => ?_)
  have ok30 : Dcl.Ok d := ⟨⟩
  refine st (zn (k := 2) Tryd.isAgg25 Tryd.sizeOf25 rfl rfl (CellsAt.all (hS26.blk (i := 1) rfl)) ?_)
  refine stn (zF (v := .agg (d.cells vo v9).toArray) (c' := (d.cells vo v9).toArray) Tryd.sizeOf25 rfl rfl (hS26.blk (i := 3) rfl) (yp ⟨hr29.1.one, hr12.1.one, trivial⟩) (Nat.le_of_ble_eq_true rfl) rfl ?_)
  intro w31 hp32
  have hS33 := hS26.pt3 hp32
  refine zg ?_
  refine zv ?_
  refine Vy (b := b6) Tryd.results57 Tryd.isAgg25 Tryd.sizeOf25 rfl rfl (CellsAt.all (hS33.blk (i := 3) rfl)) ?_
  have hS34 : Sep G W ((RowE (α := Typ) own 33 vo d.types) :: (RowE (α := Prj) own 107 v9 d.projs) :: Rs) w31 := hS33.sel 5 [0, 2] (Nat.le_add_left _ _) rfl rfl
  refine ⟨vo, v9, rfl, hS34⟩
 ·skip
  have hc28 := of_decide_eq_true hc28
  refine zp rfl ?_
  refine zx ?_
  refine ze ?_
  refine zC ?_
  refine ze ?_
  refine za (by kernel_rfl) (fun _ => ?_)
  have hi35 : k < d.types.length := (by first | omega | (simp only [zq]; omega))
  refine st (zj (k := 1) (i := k) Tryd.underlying22 Tryd.sizeOf33 rfl hdd0.sl rfl hi35 ?_)
  have hi37 : k < d.types.length := (by first | omega | (simp only [zq]; omega))
  obtain ⟨hce36, hde36_0, hoke36⟩ := hdd0.typ hi37
  rw [← zl default hi37] at hce36 hde36_0 hoke36
  have hsm38 : ((d.types.getD k default).fields).length * 48 ≤ 140737488355328 := hde36_0.small
  have hcw39 := hS26.cells hce36 (hdd0.foot (ne_of_lt hi37))
  refine st (zn (k := 1) Tryd.isAgg33 Tryd.sizeOf33 rfl rfl hcw39 ?_)
  refine st (zH Tryd.zeroValue33 ?_)
  intro w42 b41 hn40
  have hS43 := hS26.new hn40
  refine stn (zF (v := .agg ((d.types.getD k default).cells (zk W (sb dd0) (so dd0 + k * 1 + 0))).toArray) (c' := ((d.types.getD k default).cells (zk W (sb dd0) (so dd0 + k * 1 + 0))).toArray) Tryd.sizeOf33 rfl rfl (hS43.blk (i := 0) rfl) (yp ⟨hde36_0.sl.one, trivial⟩) (Nat.le_of_ble_eq_true rfl) rfl ?_)
  intro w44 hp45
  have hS46 := hS43.pt0 hp45
  refine zg ?_
  refine ze ?_
  refine za (by kernel_rfl) (fun _ => ?_)
  refine st (yO rfl ?_)
  refine st (zf (v := (zk W (sb dd0) (so dd0 + k * 1 + 0))) Tryd.isAgg31 rfl (zh (hS46.blk (i := 0) rfl) rfl) ?_)
  refine st (zt (f := 88) (vals := [(zk W (sb dd0) (so dd0 + k * 1 + 0))]) (cap := []) rfl rfl Tryd.call88 (Wn (l := (d.types.getD k default).fields) (vl := (zk W (sb dd0) (so dd0 + k * 1 + 0))) hde36_0 hS46) ?_)
  rintro v47 w48 ⟨_, rfl, hS49⟩
  have hr50 := hS49.row (i := 0) rfl
  have hr50s : _ * 48 ≤ _ := hr50.2
  refine st (zd (v := v47) rfl ?_)
  refine zg ?_
  refine ze ?_
  refine ze ?_
  refine za (by kernel_rfl) (fun _ => ?_)
  refine st (zb (v := v47) rfl ?_)
  refine st (zK (n := ((d.types.getD k default).fields).length) Tryd.underlying31 rfl hr50.1 ?_)
  refine st (zb (v := .int .i64 (0)) rfl ?_)
  refine zg ?_
  refine zC ?_
  have hS51 := hS49.toMix
  refine yw (fun mq σ wq => ∃ (q : Nat) (ρ : Env), mq = ((d.types.getD k default).fields).length - q ∧ σ = yx ρ [(1, .pointer (some ⟨b2, 0, none⟩)), (2, .pointer (some ⟨b6, 0, none⟩)), (3, .pointer (some ⟨b16, 0, none⟩)), (5, .pointer (some ⟨b41, 0, none⟩)), (6, v47), (13, dd0), (14, .int .i64 ((d.types.length : Nat) : Int)), (15, .int .i64 ((k : Nat) : Int)), (23, .int .i64 ((((d.types.getD k default).fields).length : Nat) : Int)), (24, .int .i64 ((q : Nat) : Int))] ∧ (q ≤ ((d.types.getD k default).fields).length) ∧ Sep G W ((RowE (α := Bool × Fld) (mix (α := Fld) G W) 79 v47 (xm q ((d.types.getD k default).fields))) :: (Blk b41 ((d.types.getD k default).cells (zk W (sb dd0) (so dd0 + k * 1 + 0))).toArray 33) :: (RowE (α := Typ) own 33 vo (d.types.take k)) :: (Blk b16 #[vo, v9] 25) :: (RowE (α := Prj) own 107 v9 d.projs) :: (Blk b6 #[(.slice none 0 0), (.slice none 0 0)] 25) :: (Blk b2 (d.cells dd0 dd1).toArray 25) :: Rs) wq) ⟨0, _, rfl, zu ⟨rfl, rfl, rfl, rfl, rfl, rfl, rfl, rfl, rfl, rfl, trivial⟩, Nat.zero_le _, hS51⟩ ?_
  rintro m53 σ54 w52 ⟨q, ρl2, rfl, rfl, hkq, hS55⟩
  have hr56 := hS55.row (i := 0) rfl
  rw [xd] at hr56
  refine ze ?_
  refine za (by kernel_rfl) (fun _ => ?_)
  refine st (zU (k := .i64) (a := ((q : Nat) : Int)) (b := ((((d.types.getD k default).fields).length : Nat) : Int)) rfl rfl ?_)
  refine zg ?_
  refine ze ?_
  cases hc57 : decide (((q : Nat) : Int) < ((((d.types.getD k default).fields).length : Nat) : Int))
  ·skip
   have hc57 := of_decide_eq_false hc57
   have hS58 : Sep G W ((RowE (α := Fld) own 79 v47 ((d.types.getD k default).fields)) :: (Blk b41 ((d.types.getD k default).cells (zk W (sb dd0) (so dd0 + k * 1 + 0))).toArray 33) :: (RowE (α := Typ) own 33 vo (d.types.take k)) :: (Blk b16 #[vo, v9] 25) :: (RowE (α := Prj) own 107 v9 d.projs) :: (Blk b6 #[(.slice none 0 0), (.slice none 0 0)] 25) :: (Blk b2 (d.cells dd0 dd1).toArray 25) :: Rs) w52 := hS55.ofMix (by omega)
   have hr59 := hS58.row (i := 0) rfl
   have hr59s : _ * 48 ≤ _ := hr59.2
   refine zo rfl ?_
   refine yv ?_
   refine yo ?_
   refine za (by kernel_rfl) (fun _ => ?_)
   refine st (yC rfl ?_)
   refine st (zf (v := vo) Tryd.isAgg22 rfl (zh (hS58.blk (i := 3) rfl) rfl) ?_)
   refine st (zb (v := v47) rfl ?_)
   have ok60 : Typ.Ok (d.types.getD k default) := ⟨⟩
   refine st (ye (parts' := [(0, v47)]) (v := .agg ((d.types.getD k default).cells v47).toArray) rfl (by obtain ⟨_, _, hv61, _⟩ := hr59.1; rw [show v47 = Value.slice _ _ _ from hv61]; simp [Instr.build, Instr.fill, Ev.cells, go_sem, Mv.cells, Fld.cells, Typ.cells, Prj.cells, Dcl.cells, Cel.cells, AskR.cells, Ask.cells, CelS.cells, Ev.cells, Ent.cells, Sta.cells]) ?_)
   refine st (zI (k := 1) (parts' := [(0, .agg ((d.types.getD k default).cells v47).toArray)]) (c := ((d.types.getD k default).cells v47).toArray) Tryd.underlying22 Tryd.sizeOf33 Tryd.zeroValue33 (by decide) rfl (by kernel_rfl) ?_)
   intro w64 b63 hn62
   have hS65 := hS58.new hn62
   have hbk69 := hS65.blk (i := 0) rfl
   have hS70 : Sep G W ((RowE (α := Typ) own 33 vo (d.types.take k)) :: (RowE (α := Fld) own 79 v47 ((d.types.getD k default).fields)) :: (Blk b41 ((d.types.getD k default).cells (zk W (sb dd0) (so dd0 + k * 1 + 0))).toArray 33) :: (Blk b16 #[vo, v9] 25) :: (RowE (α := Prj) own 107 v9 d.projs) :: (Blk b6 #[(.slice none 0 0), (.slice none 0 0)] 25) :: (Blk b2 (d.cells dd0 dd1).toArray 25) :: Rs) w64 := hS65.sel 8 [3, 1, 2, 4, 5, 6, 7] (Nat.le_add_left _ _) rfl rfl
   refine st (xo (src := own) (bytes := 24) (x1 := (d.types.getD k default)) hS70 el22 rfl rfl hbk69 (fun _ _ hN => ⟨_, rfl, RowE.soft hN, ok60⟩) (by first | omega | (simp only [List.length_append, List.length_cons, List.length_nil, List.length_take, List.length_drop]; omega)) rfl ?_)
   intro v67 w66 hS68
   have hr71 := hS68.row (i := 0) rfl
   have hr71s : _ * 24 ≤ _ := hr71.2
   refine st (yC rfl ?_)
   refine stn (xj (v := v67) (c := [vo, v9]) (c' := [v67, v9]) Tryd.sizeOf22 rfl rfl (hS68.blk (i := 2) rfl) hr71.1.one rfl rfl ?_)
   intro w72 hp73
   have ok74 : Dcl.Ok (⟨(d.types.take k) ++ [(d.types.getD k default)], d.projs⟩ : Dcl) := ⟨⟩
   have hS75 := hS68.pt2 hp73
   refine zg ?_
   refine za (by kernel_rfl) (fun _ => ?_)
   have hr76 : InR ((k + 1 : Nat) : Int) := by first | omega | (simp only [zq]; omega)
   refine st (yg (r := ((k + 1 : Nat) : Int)) (k := .i64) (a := ((k : Nat) : Int)) (b := 1) rfl rfl (by rw [show (((k : Nat) : Int) + 1 : Int) = ((k + 1 : Nat) : Int) by first | omega | (simp only [zq]; omega)]; exact zO hr76) ?_)
   refine st (zb (v := .int .i64 ((k + 1 : Nat) : Int)) rfl ?_)
   refine zg ?_
   have hS77 : Sep G W ((RowE (α := Typ) own 33 v67 ((d.types.take k) ++ [(d.types.getD k default)])) :: (Blk b16 ((⟨(d.types.take k) ++ [(d.types.getD k default)], d.projs⟩ : Dcl).cells v67 v9).toArray 25) :: (RowE (α := Prj) own 107 v9 d.projs) :: (Blk b6 #[(.slice none 0 0), (.slice none 0 0)] 25) :: (Blk b2 (d.cells dd0 dd1).toArray 25) :: Rs) w72 := hS75.sel 6 [0, 2, 3, 4, 5] (Nat.le_add_left _ _) rfl rfl
   have hL78 : (d.types.take (k + 1)) = (d.types.take k) ++ [(d.types.getD k default)] := (List.take_getD (by omega))
   rw [← hL78] at hS77
   exact ⟨_, by omega, k + 1, v67, _, rfl, zu ⟨rfl, rfl, rfl, rfl, rfl, rfl, trivial⟩, by omega, hS77⟩
  ·skip
   have hc57 := of_decide_eq_true hc57
   refine zp rfl ?_
   refine zx ?_
   refine ze ?_
   refine zC ?_
   refine ze ?_
   refine za (by kernel_rfl) (fun _ => ?_)
   refine st (zb (v := .int .i64 ((q : Nat) : Int)) rfl ?_)
   refine st (zd (v := .int .i64 ((q : Nat) : Int)) rfl ?_)
   refine zg ?_
   refine za (by kernel_rfl) (fun _ => ?_)
   refine st (zb (v := v47) rfl ?_)
   refine st (zb (v := .int .i64 ((q : Nat) : Int)) rfl ?_)
   refine st (zb (v := v47) rfl ?_)
   refine st (zb (v := .int .i64 ((q : Nat) : Int)) rfl ?_)
   have hi79 : q < ((d.types.getD k default).fields).length := (by first | omega | (simp only [zq]; omega))
   refine st (zj (k := 4) (i := q) Tryd.underlying31 Tryd.sizeOf79 rfl hr56.1 rfl hi79 ?_)
   refine st (yJ rfl ?_)
   have hi81 : q < ((d.types.getD k default).fields).length := (by first | omega | (simp only [zq]; omega))
   obtain ⟨_, hce80, de80_0, rfl, hde80_0, hoke80⟩ := hS55.mixAt (i := 0) (j := q) rfl (Nat.le_refl _) hi81
   rw [← zl default hi81] at hce80 hde80_0 hoke80
   refine st (zf (v := de80_0) Tryd.isAgg77 rfl (hce80.get (j := 3) rfl) ?_)
   refine st (zt (f := 67) (vals := [de80_0]) (cap := []) rfl rfl Tryd.call67 (YS (l := (((d.types.getD k default).fields).getD q default).moves) (vl := de80_0) hde80_0 hS55) ?_)
   rintro v82 w83 ⟨_, rfl, hS84⟩
   have hr85 := hS84.row (i := 0) rfl
   have hr85s : _ * 32 ≤ _ := hr85.2
   have hi86 : q < ((d.types.getD k default).fields).length := (by first | omega | (simp only [zq]; omega))
   refine st (zj (k := 4) (i := q) Tryd.underlying31 Tryd.sizeOf79 rfl hr56.1 rfl hi86 ?_)
   refine st (yJ rfl ?_)
   have hS88 := hS84.mv1
   have hi90 : q < ((d.types.getD k default).fields).length := (by first | omega | (simp only [zq]; omega))
   refine stn (ZH (α := Fld) (j := q) (o := 3) (u := v82) (us := [v82]) hS88 Tryd.sizeOf77 hi90 rfl rfl (congrArg Array.toList (yL hr85.1.one)) (Nat.le_of_ble_eq_true rfl) (yp ⟨hr85.1.one, trivial⟩) (fun w f cs0 hr hN => (by obtain ⟨d, rfl, hd, hok⟩ := hr; exact ⟨_, rfl, (by rw [← zl default hi90]; exact RowE.soft hN), hok⟩)) ?_)
   intro w87 hS91
   refine zg ?_
   refine za (by kernel_rfl) (fun _ => ?_)
   have hr92 : InR ((q + 1 : Nat) : Int) := by first | omega | (simp only [zq]; omega)
   refine st (yg (r := ((q + 1 : Nat) : Int)) (k := .i64) (a := ((q : Nat) : Int)) (b := 1) rfl rfl (by rw [show (((q : Nat) : Int) + 1 : Int) = ((q + 1 : Nat) : Int) by first | omega | (simp only [zq]; omega)]; exact zO hr92) ?_)
   refine st (zb (v := .int .i64 ((q + 1 : Nat) : Int)) rfl ?_)
   refine zg ?_
   exact ⟨_, by omega, q + 1, _, rfl, zu ⟨rfl, rfl, rfl, rfl, rfl, rfl, rfl, rfl, rfl, rfl, trivial⟩, by omega, hS91⟩

theorem Qw {G : Nat → Prop} {W w : World} {Rs : List HP} {d : Dcl} {dd0 : Value} (hdd0 : RdS W G dd0 d.types) {dd1 : Value} (hdd1 : RdS W G dd1 d.projs) (od : d.Ok) (hS0 : Sep G W Rs w) : Ret Tryd.prog 24 [.agg (d.cells dd0 dd1).toArray] w (fun r w' => ∃ (b : Nat), r = (.pointer (some ⟨b, 0, none⟩) : Value) ∧ Sep G W ((ViewO b d [] []) :: Rs) w') := by
 have hdd0s : _ * 24 ≤ _ := hdd0.small
 have hdd1s : _ * 40 ≤ _ := hdd1.small
 refine zr (args := [.agg (d.cells dd0 dd1).toArray]) Tryd.func24 rfl rfl ?_
 refine ze ?_
 refine za (by kernel_rfl) (fun _ => ?_)
 refine st (yd (v := .agg (d.cells dd0 dd1).toArray) rfl ?_)
 intro w3 b2 hn1
 have hS4 := hS0.new hn1
 refine st (zd (v := .pointer none) rfl ?_)
 refine zg ?_
 refine ze ?_
 refine za (by kernel_rfl) (fun _ => ?_)
 refine st (zn (k := 2) Tryd.isAgg25 Tryd.sizeOf25 rfl rfl (CellsAt.all (hS4.blk (i := 0) rfl)) ?_)
 refine st (zt (f := 57) (vals := [.agg (d.cells dd0 dd1).toArray]) (cap := []) rfl rfl Tryd.call57 (WD (d := d) hdd0 hdd1 od hS4) ?_)
 rintro _ w7 ⟨v15, v26, rfl, hS8⟩
 have hr9 := hS8.row (i := 0) rfl
 have hr9s : _ * 24 ≤ _ := hr9.2
 have hr10 := hS8.row (i := 1) rfl
 have hr10s : _ * 40 ≤ _ := hr10.2
 refine st (Zq ?_)
 intro w12 hn11
 obtain ⟨m13, m13e⟩ : ∃ z, z = w7.heap.size := ⟨_, rfl⟩; rw [← m13e]
 have hS14 : Sep G W ((zJ yn E1 m13 (fun _ => none)) :: (RowE (α := Typ) own 33 v15 d.types) :: (RowE (α := Prj) own 107 v26 d.projs) :: (Blk b2 (d.cells dd0 dd1).toArray 25) :: Rs) w12 := (by rw [m13e]; exact hS8.mapoNew hn11)
 refine st (Zq ?_)
 intro w16 hn15
 obtain ⟨m17, m17e⟩ : ∃ z, z = w12.heap.size := ⟨_, rfl⟩; rw [← m17e]
 have hS18 : Sep G W ((zJ yt E2 m17 (fun _ => none)) :: (zJ yn E1 m13 (fun _ => none)) :: (RowE (α := Typ) own 33 v15 d.types) :: (RowE (α := Prj) own 107 v26 d.projs) :: (Blk b2 (d.cells dd0 dd1).toArray 25) :: Rs) w16 := (by rw [m17e]; exact hS14.mapoNew hn15)
 refine st (ye (parts' := [(0, .agg (d.cells v15 v26).toArray), (2, .map (some m13)), (3, .map (some m17))]) (v := .agg #[v15, v26, (.slice none 0 0), .map (some m13), .map (some m17)]) rfl (by simp [Instr.build, Instr.fill, go_sem, Dcl.cells]) ?_)
 refine st (yd (v := .agg #[v15, v26, (.slice none 0 0), .map (some m13), .map (some m17)]) rfl ?_)
 intro w21 b20 hn19
 have hS22 := hS18.new hn19
 refine st (zd (v := .pointer (some ⟨b20, 0, none⟩)) rfl ?_)
 refine zg ?_
 refine zv ?_
 refine zX Tryd.results24 (show _ = (.pointer (some ⟨b20, 0, none⟩) : Value) from rfl) ?_
 have hS23 : Sep G W ((RowE (α := Ent) own 62 (.slice none 0 0) ([] : List Ent)) :: (Blk b20 #[v15, v26, (.slice none 0 0), .map (some m13), .map (some m17)] 111) :: (zJ yt E2 m17 (fun _ => none)) :: (zJ yn E1 m13 (fun _ => none)) :: (RowE (α := Typ) own 33 v15 d.types) :: (RowE (α := Prj) own 107 v26 d.projs) :: (Blk b2 (d.cells dd0 dd1).toArray 25) :: Rs) w21 := hS22.rowNil own 62
 have hS24 : Sep G W ((Blk b20 #[v15, v26, (.slice none 0 0), .map (some m13), .map (some m17)] 111) :: (RowE (α := Typ) own 33 v15 d.types) :: (RowE (α := Prj) own 107 v26 d.projs) :: (RowE (α := Ent) own 62 (.slice none 0 0) ([] : List Ent)) :: (zJ yn E1 m13 (fun _ => none)) :: (zJ yt E2 m17 (fun _ => none)) :: (Blk b2 (d.cells dd0 dd1).toArray 25) :: Rs) w21 := hS23.sel 7 [1, 4, 5, 0, 3, 2, 6] (Nat.le_add_left _ _) rfl rfl
 have hS25 : Sep G W ((ViewO b20 d [] []) :: (Blk b2 (d.cells dd0 dd1).toArray 25) :: Rs) w21 := ViewO.close (d := d) (L := []) (M := []) hS24
 have hS26 : Sep G W ((ViewO b20 d [] []) :: Rs) w21 := hS25.sel 2 [0] (Nat.le_add_left _ _) rfl rfl
 refine ⟨b20, rfl, hS26⟩

end Go.Proofs.YtlblilbmpdejgaaDoor
