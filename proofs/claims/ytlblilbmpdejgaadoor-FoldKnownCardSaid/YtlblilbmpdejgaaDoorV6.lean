import Derived.Test.YtlblilbmpdejgaaDoorV5
set_option linter.unusedSimpArgs false
set_option linter.unusedVariables false
set_option linter.unusedSectionVars false
set_option linter.deprecated false
set_option maxRecDepth 8000
set_option maxHeartbeats 4000000
open Go.Proofs.Tryd renaming isAgg3 → lT, sizeOf59 → mT, sizeOf57 → nT, sizeOf33 → oT, isAgg59 → pT, isAgg57 → qT, isAgg26 → rT, sizeOf68 → sT, underlying22 → tT, isAgg33 → uT, underlying31 → vT, underlying66 → wT, zeroValue68 → lR, sizeOf25 → mR, sizeOf62 → nR, isAgg22 → oR, underlying47 → pR, sizeOf79 → qR, isAgg25 → rR, isAgg108 → sR, zeroValue59 → tR, isAgg68 → uR, zeroValue33 → vR, sizeOf133 → wR, isAgg120 → lY, sizeOf120 → mY, underlying108 → nY, results59 → oY, call60 → pY, isAgg66 → qY, underlying23 → rY, zeroValue62 → sY, underlying26 → tY, isAgg109 → uY, isAgg133 → vY, isAgg40 → wY, call54 → lA, sizeOf40 → mA, results87 → nA, results88 → pA, results65 → qA, sizeOf26 → rA, sizeOf42 → sA, zeroValue25 → tA, isAgg31 → uA, zeroValue57 → vA, zeroValue133 → wA, underlying109 → lB, zeroValue47 → mB
namespace Go.Proofs.YtlblilbmpdejgaaDoor
open Go.Proofs Go.RowKit

theorem YT {G : Nat → Prop} {W w : World} {Rs : List HP} {e : Ev} {de0 : Value} (hde0 : RdS W G de0 e.deps) (oe : e.Ok) (hS0 : Sep G W Rs w) : Ret Tryd.prog 60 [.agg (e.cells de0).toArray] w (fun r w' => ∃ (v : Value), r = (.agg (e.cells v).toArray : Value) ∧ Sep G W ((RowE (α := Int) own 3 v e.deps) :: Rs) w') := by
 have hde0s : _ * 8 ≤ _ := hde0.small
 refine zl (args := [.agg (e.cells de0).toArray]) Tryd.func60 rfl rfl ?_
 refine za (R0 fun _ => st (zR (v := .agg (e.cells de0).toArray) rfl ?_))
 intro w3 b2 n
 refine st (zr tR ?_)
 intro w7 p o
 have i := (hS0.new n).new o
 refine zb (za (R0 fun _ => st (xo rfl (st (lD de0 wY rfl (zd (i.b1) rfl) (st (cL lA (Ye (l := e.deps) (vl := de0) hde0 i) ?_)))))))
 rintro g w10 ⟨_, rfl, a⟩
 have d := a.r0
 have hr12s : _ * 8 ≤ _ := d.2
 refine st (xo rfl (stn (yp (v := g) (c := [Iv (e.origin), Iv (e.seq), Iv (e.lam), de0, Iv (e.typ), Iv (e.agg), Iv (e.field), Iv (e.op), Iv (e.arg), Iv (e.key)]) (c' := [Iv (e.origin), Iv (e.seq), Iv (e.lam), g, Iv (e.typ), Iv (e.agg), Iv (e.field), Iv (e.op), Iv (e.arg), Iv (e.key)]) mA rfl rfl (a.b2) d.1.one rfl rfl ?_)))
 intro w13 j
 have ok15 : Ev.Ok e := ⟨(show InR (e.origin) from oe.origin), (show InR (e.seq) from oe.seq), (show InR (e.lam) from oe.lam), (show InR (e.typ) from oe.typ), (show InR (e.agg) from oe.agg), (show InR (e.field) from oe.field), (show InR (e.op) from oe.op), (show InR (e.arg) from oe.arg), (show InR (e.key) from oe.key)⟩
 have f := a.pt2 j
 refine zb (za (R0 fun _ => st (zg (k := 10) pT mT rfl rfl (CellsAt.all (f.b2)) (stn (zp (v := .agg (e.cells g).toArray) (c' := (e.cells g).toArray) mT rfl rfl (f.b1) (zW ⟨rfl, rfl, rfl, d.1.one, rfl, rfl, rfl, rfl, rfl, rfl, trivial⟩) yqc rfl ?_)))))
 intro w17 m
 have h := f.pt1 m
 refine zb (zm (XK (b := p) Tryd.results60 pT mT rfl rfl (CellsAt.all (h.b1)) ?_))
 refine ⟨g, rfl, (h.s3_a)⟩

instance : Flat Prj := ⟨fun h => h⟩
theorem el23 : Elem Tryd.prog 23 107 5 40 := ⟨rY, _, _, rfl, rfl, rfl, rfl, rfl⟩
theorem VB {G : Nat → Prop} {W w : World} {Rs : List HP} {vl : Value} {l : List Prj} (hl : RdS W G vl l) (hS0 : Sep G W Rs w) : Ret Tryd.prog 87 [vl] w (fun r w' => ∃ (v : Value), r = (v : Value) ∧ Sep G W ((RowE (α := Prj) own 107 v l) :: Rs) w') := by
 have hls : _ * 40 ≤ _ := hl.small
 refine zl (args := [vl]) Tryd.func87 rfl rfl ?_
 refine za (R0 fun _ => st (aS (Iz) (zb (za (za (R0 fun _ => st (mV vl (st (xU (v := vl) rY rfl hl.sl (zb ?_))))))))))
 cases i : xP vl
 refine zi rfl (zk (za (R0 fun _ => st (zu (k := 5) (parts' := []) (c := #[]) rY Tryd.sizeOf107 Tryd.zeroValue107 dc rfl kr ?_))))
 intro o p j
 refine st (mV vl ?_)
 have d : Sep G W ((RowE (α := Prj) own 107 (Iy p 0 0) ([] : List Prj)) :: Rs) o := Sep.blkRow (src := own) (l := ([] : List Prj)) (css := []) (hS0.new j) rfl trivial yqa
 have e := d.r0
 have hr10s : _ * 40 ≤ _ := e.2
 refine st (xD (src := own) (bytes := 40) d el23 rfl rfl hl yqb rfl (hq' := fun _ _ h _ _ => Xo h) ?_)
 intro b q a
 have a : Sep G W ((RowE (α := Prj) own 107 b l) :: Rs) q := a
 have f := a.r0
 have hr11s : _ * 40 ≤ _ := f.2
 refine st (aS b (zb (zm (zL nA (show _ = (b : Value) from rfl) ?_))))
 refine ⟨b, rfl, a⟩
 have m := ZP hl.sl i
 refine zj rfl (za (R0 fun _ => st (aS (Iz) (zb (zm (zL nA (show _ = ((Iz) : Value) from rfl) ?_))))))
 have g : Sep G W ((RowE (α := Prj) own 107 (Iz) ([] : List Prj)) :: Rs) w := hS0.rowNil own 107
 have n : l = [] := List.length_eq_zero_iff.1 m
 subst n
 refine ⟨(Iz), rfl, g⟩

theorem el31 : Elem Tryd.prog 31 79 4 48 := ⟨vT, _, _, rfl, rfl, rfl, rfl, rfl⟩
theorem VQ {G : Nat → Prop} {W w : World} {Rs : List HP} {vl : Value} {l : List Fld} (hl : RdS W G vl l) (hS0 : Sep G W Rs w) : Ret Tryd.prog 88 [vl] w (fun r w' => ∃ (v : Value), r = (v : Value) ∧ Sep G W ((RowE (α := Fld) (shr G W) 79 v l) :: Rs) w') := by
 have hls : _ * 48 ≤ _ := hl.small
 refine zl (args := [vl]) Tryd.func88 rfl rfl ?_
 refine za (R0 fun _ => st (aS (Iz) (zb (za (za (R0 fun _ => st (mV vl (st (xU (v := vl) vT rfl hl.sl (zb ?_))))))))))
 cases i : xP vl
 refine zi rfl (zk (za (R0 fun _ => st (zu (k := 4) (parts' := []) (c := #[]) vT qR Tryd.zeroValue79 dc rfl kr ?_))))
 intro o p j
 refine st (mV vl ?_)
 have d : Sep G W ((RowE (α := Fld) (shr G W) 79 (Iy p 0 0) ([] : List Fld)) :: Rs) o := Sep.blkRow (src := (shr G W)) (l := ([] : List Fld)) (css := []) (hS0.new j) rfl trivial yqa
 have e := d.r0
 have hr10s : _ * 48 ≤ _ := e.2
 refine st (xD (src := (shr G W)) (bytes := 48) d el31 rfl rfl hl yqb rfl (hq' := fun _ _ h _ _ => h) ?_)
 intro b q a
 have a : Sep G W ((RowE (α := Fld) (shr G W) 79 b l) :: Rs) q := a
 have f := a.r0
 have hr11s : _ * 48 ≤ _ := f.2
 refine st (aS b (zb (zm (zL pA (show _ = (b : Value) from rfl) ?_))))
 refine ⟨b, rfl, a⟩
 have m := ZP hl.sl i
 refine zj rfl (za (R0 fun _ => st (aS (Iz) (zb (zm (zL pA (show _ = ((Iz) : Value) from rfl) ?_))))))
 have g : Sep G W ((RowE (α := Fld) (shr G W) 79 (Iz) ([] : List Fld)) :: Rs) w := hS0.rowNil (shr G W) 79
 have n : l = [] := List.length_eq_zero_iff.1 m
 subst n
 refine ⟨(Iz), rfl, g⟩

theorem Qc : Elem Tryd.prog 66 62 13 120 := ⟨wT, _, _, rfl, rfl, rfl, rfl, rfl⟩
theorem VT {G : Nat → Prop} {W w : World} {Rs : List HP} {vl : Value} {l : List Ent} (hl : RdS W G vl l) (hS0 : Sep G W Rs w) : Ret Tryd.prog 65 [vl] w (fun r w' => ∃ (v : Value), r = (v : Value) ∧ Sep G W ((RowE (α := Ent) (shr G W) 62 v l) :: Rs) w') := by
 have hls : _ * 120 ≤ _ := hl.small
 refine zl (args := [vl]) Tryd.func65 rfl rfl ?_
 refine za (R0 fun _ => st (aS (Iz) (zb (za (za (R0 fun _ => st (mV vl (st (xU (v := vl) wT rfl hl.sl (zb ?_))))))))))
 cases i : xP vl
 refine zi rfl (zk (za (R0 fun _ => st (zu (k := 13) (parts' := []) (c := #[]) wT nR sY dc rfl kr ?_))))
 intro o p j
 refine st (mV vl ?_)
 have d : Sep G W ((RowE (α := Ent) (shr G W) 62 (Iy p 0 0) ([] : List Ent)) :: Rs) o := Sep.blkRow (src := (shr G W)) (l := ([] : List Ent)) (css := []) (hS0.new j) rfl trivial yqa
 have e := d.r0
 have hr10s : _ * 120 ≤ _ := e.2
 refine st (xD (src := (shr G W)) (bytes := 120) d Qc rfl rfl hl yqb rfl (hq' := fun _ _ h _ _ => h) ?_)
 intro b q a
 have a : Sep G W ((RowE (α := Ent) (shr G W) 62 b l) :: Rs) q := a
 have f := a.r0
 have hr11s : _ * 120 ≤ _ := f.2
 refine st (aS b (zb (zm (zL qA (show _ = (b : Value) from rfl) ?_))))
 refine ⟨b, rfl, a⟩
 have m := ZP hl.sl i
 refine zj rfl (za (R0 fun _ => st (aS (Iz) (zb (zm (zL qA (show _ = ((Iz) : Value) from rfl) ?_))))))
 have g : Sep G W ((RowE (α := Ent) (shr G W) 62 (Iz) ([] : List Ent)) :: Rs) w := hS0.rowNil (shr G W) 62
 have n : l = [] := List.length_eq_zero_iff.1 m
 subst n
 refine ⟨(Iz), rfl, g⟩

theorem QK {G : Nat → Prop} {W w : World} {Rs : List HP} {x : Sta} {dx0 : Value} (hdx0 : RdS W G dx0 x.cls) (ox : x.Ok) (hS0 : Sep G W Rs w) : Ret Tryd.prog 63 [.agg (x.cells dx0).toArray] w (fun r w' => ∃ (v : Value), r = (.agg (x.cells v).toArray : Value) ∧ Sep G W ((RowE (α := Cel) own 42 v x.cls) :: Rs) w') := by
 have hdx0s : _ * 32 ≤ _ := hdx0.small
 refine zl (args := [.agg (x.cells dx0).toArray]) Tryd.func63 rfl rfl ?_
 refine za (R0 fun _ => st (zR (v := .agg (x.cells dx0).toArray) rfl ?_))
 intro w3 b2 aD
 refine st (zr lR ?_)
 intro w7 R aE
 have aw := (hS0.new aD).new aE
 refine zb (za (R0 fun _ => st (yw rfl (st (lD dx0 rT rfl (zd (aw.b1) rfl) (st (cL Tryd.call53 (Xn (l := x.cls) (vl := dx0) hdx0 aw) ?_)))))))
 rintro m w10 ⟨_, rfl, F⟩
 have H := F.r0
 have hr12s : _ * 32 ≤ _ := H.2
 refine st (yw rfl (stn (yp (v := m) (c := [Iv (x.ver), dx0]) (c' := [Iv (x.ver), m]) rA rfl rfl (F.b2) H.1.one rfl rfl ?_)))
 intro w13 ax
 have ok15 : Sta.Ok x := ⟨(show InR (x.ver) from ox.ver)⟩
 have S := F.pt2 ax
 refine zb (za (za (R0 fun _ => st (yw rfl (st (lD m rT rfl (zd (S.b2) rfl) (st (zA (n := x.cls.length) tY rfl H.1 (st (mV (Iv 0) (zb (zn ?_))))))))))))
 have ay := S.toMix
 refine zX (fun mq σ y => ∃ (k : Nat) (ρ : Env), mq = x.cls.length - k ∧ σ = yb ρ [(1, Ix b2 0), (2, Ix R 0), (10, Iw x.cls.length), (11, Iw k)] ∧ (k ≤ x.cls.length) ∧ Sep G W ((RowE (α := Bool × Cel) (mix (α := Cel) G W) 42 m (xX k x.cls)) :: (Blk R #[Iv 0, (Iz)] 68) :: (Blk b2 (x.cells m).toArray 68) :: Rs) y) ⟨0, _, rfl, sSf, Nat.zero_le _, ay⟩ ?_
 rintro m19 σ20 aF ⟨k, ρl1, rfl, rfl, hkk, I⟩
 have J := I.r0
 rw [xx] at J
 refine za (R0 fun _ => st (zD (k := .i64) (a := ((k : Nat) : Int)) (b := ((x.cls.length : Nat) : Int)) rfl rfl (zb (za ?_))))
 cases z : decide (((k : Nat) : Int) < ((x.cls.length : Nat) : Int))
 have z := fD z
 have A : Sep G W ((RowE (α := Cel) own 42 m x.cls) :: (Blk R #[Iv 0, (Iz)] 68) :: (Blk b2 (x.cells m).toArray 68) :: Rs) aF := I.ofMix om
 have T := A.r0
 have hr25s : _ * 32 ≤ _ := T.2
 refine zi rfl (zU (zI (za (R0 fun _ => st (zg (k := 2) uR sT rfl rfl (CellsAt.all (A.b2)) (stn (zp (v := .agg (x.cells m).toArray) (c' := (x.cells m).toArray) sT rfl rfl (A.b1) (zW ⟨rfl, T.1.one, trivial⟩) yqc rfl ?_)))))))
 intro w26 az
 have U := A.pt1 az
 refine zb (zm (XK (b := R) Tryd.results63 uR sT rfl rfl (CellsAt.all (U.b1)) ?_))
 refine ⟨m, rfl, (U.s3_a)⟩
 have z := tD z
 refine zj rfl (zk (za (zn (za (R0 fun _ => st (mV (Iw k) (st (aS (Iw k) (zb ?_)))))))))
 refine WD4 ((fun TT V => WF [fun vals y => Sep G W (V :: TT) y, fun vals y => ∃ (e : Value), (vals 8 = (e : Value)) ∧ (RdS W G e (x.cls.getD k default).set) ∧ (Cel.Ok (x.cls.getD k default)) ∧ Sep G W (V :: TT) y, fun vals y => ∃ (e : Value) (p : Value), (vals 8 = (e : Value)) ∧ (vals 9 = (p : Value)) ∧ (RdS W G e (x.cls.getD k default).set) ∧ (Cel.Ok (x.cls.getD k default)) ∧ Sep G W ((RowE (α := Int) own 3 p ((x.cls.getD k default).set)) :: V :: TT) y, fun vals y => ∃ (e : Value) (p : Value), (vals 8 = (e : Value)) ∧ (vals 9 = (p : Value)) ∧ (RdS W G e (x.cls.getD k default).set) ∧ (Cel.Ok (x.cls.getD k default)) ∧ Sep G W ((RowE (α := Bool × Cel) (mix (α := Cel) G W) 42 m (xX (k + 1) x.cls)) :: TT) y]) ((Blk R #[Iv 0, (Iz)] 68) :: (Blk b2 (x.cells m).toArray 68) :: Rs) (RowE (α := Bool × Cel) (mix (α := Cel) G W) 42 m (xX k x.cls))) (AF [Vl 0 (Ix b2 1), Vl 1 (m), Vl 2 (Iw k), Vl 3 (Ix b2 1), Vl 4 (m), Vl 5 (Iw k), Vl 6 (Ix (sb m) (so m + k * 2)), Vl 7 (Ix (sb m) (so m + k * 2 + 1)), fun _ => True, fun _ => True, Vl 10 (Ix (sb m) (so m + k * 2)), Vl 11 (Ix (sb m) (so m + k * 2 + 1)), fun _ => True]) [[], [0], [], [], [3], [], [3, 4, 5], [3, 4, 5, 6], [3, 4, 5, 6, 7], [3, 4, 5, 6, 7, 8], (rg 10), (rg 11), (rg 12)] [8, 9, 12] [(0, 2), (0, 2), (0, 2), (0, 0), (0, 0), (0, 0), (0, 0), (0, 0), (0, 0), (1, 1), (2, 2), (2, 2), (2, 2)] I ⟨fun _ _ _ _ _ _ _ => obl rfl (yw rfl dR), ?_, fun _ _ _ _ _ _ _ => obl rfl (mV (Iw k) dR), fun _ _ _ _ _ _ _ => obl rfl (yw rfl dR), ob1 0 fun _ _ (Z : Sep _ _ _ _) aa => obl rfl (lD m rT (aa 3 dc) (zd (Z.b2) rfl) dR), fun _ _ _ _ _ _ _ => obl rfl (mV (Iw k) dR), ?_, fun _ _ _ _ _ _ ab => obl rfl (yC (ab 6 dc) dR), ?_, ?_, ?_, fun _ _ _ _ _ _ ac => obl rfl (yC (ac 10 dc) dR), ?_, trivial⟩ ?_
 refine fun t _ _ aA aB B C => ?_
 have hkk : t = 0 ∨ t = 1 ∨ t = 2 := by have h1 : 0 ≤ t := aA; have h2 : t ≤ 2 := aB; omega
 rcases hkk with rfl | rfl | rfl
 have ad : Sep _ _ _ _ := B
 exact obl rfl (lD m rT (C 0 dc) (zd (ad.b2) rfl) dR)
 obtain ⟨e, q, g, h, ae⟩ := B
 exact obl rfl (lD m rT (C 0 dc) (zd (ae.b2) rfl) dR)
 obtain ⟨e, p, q, s, g, h, af⟩ := B
 exact obl rfl (lD m rT (C 0 dc) (zd (af.b3) rfl) dR)
 refine ob1 0 fun _ _ _ K => (obl rfl ?_)
 have ag : k < x.cls.length := bo
 exact ze (k := 2) (i := k) tY sA (K 4 dc) J.1 (K 5 dc) ag dR
 refine ob1 0 fun _ _ (X : Sep _ _ _ _) aC => (obl rfl ?_)
 have Y : k < x.cls.length := bo
 obtain ⟨_, L, e, rfl, g, h⟩ := X.mixAt (i := 0) (j := k) rfl (Nat.le_refl _) Y
 rw [← zG default Y] at L g h
 exact (lD e wY (aC 7 dc) (L.get (j := 1) rfl) (fun M hv E => ⟨(Exists.intro e (And.intro hv (And.intro g (And.intro h X)))), trivial⟩))
 refine ob1 1 fun vals _ ai _ => ?_
 obtain ⟨e, q, g, h, aj⟩ := ai
 refine obl rfl ((zV (f := 54) (vals := [e]) (cap := []) rfl (yH ⟨q, trivial⟩) lA (Ye (l := (x.cls.getD k default).set) (vl := e) g aj) ?_))
 rintro p w106 ⟨_, rfl, N⟩
 have ak := N.r0
 have hr108s : _ * 8 ≤ _ := ak.2
 exact fun M hv E => ⟨(Exists.intro e (Exists.intro p (And.intro ((E 8 dc).trans q) (And.intro hv (And.intro g (And.intro h N)))))), trivial⟩
 refine ob1 2 fun _ _ al O => ?_
 obtain ⟨e, p, q, s, g, h, hS208⟩ := al
 refine obl rfl ?_
 have am : k < x.cls.length := bo
 exact ze (k := 2) (i := k) tY sA (O 1 dc) J.1 (O 2 dc) am dR
 refine ob1 2 fun _ _ an ao => ?_
 obtain ⟨e, p, q, s, g, h, ap⟩ := an
 refine obl rfl ?_
 have P := ap.mv1
 have Q : k < x.cls.length := bo
 have D := P.r1
 have hr139s : _ * 8 ≤ _ := D.2
 refine (Yy (α := Cel) (j := k) (o := 1) (u := p) (us := [p]) P mA Q (ao 11 (by decide)) s (congrArg Array.toList (xf D.1.one)) (Nat.le_of_ble_eq_true rfl) (zW ⟨D.1.one, trivial⟩) (fun w f cs0 hr hN => (by obtain ⟨d, rfl, hd, hok⟩ := hr; exact ⟨_, rfl, (by rw [← zG default Q]; exact RowE.soft hN), hok⟩)) ?_)
 intro w135 aq
 exact fun M hv E => ⟨(Exists.intro e (Exists.intro p (And.intro ((E 8 dc).trans q) (And.intro ((E 9 dc).trans s) (And.intro g (And.intro h aq)))))), trivial⟩
 intro vals w219 ar hA221
 obtain ⟨e, p, q, s, g, h, au⟩ := ar
 refine zZ (kv := [(1, Ix b2 0), (2, Ix R 0), (10, Iw x.cls.length), (11, Iw k), (12, .bool true), (13, Iw k), (3, Iw k)]) sEv (fun ρw219 => (zb (R0 fun _ => ?_)))
 have av : InR ((k + 1 : Nat) : Int) := bo
 refine st (zH (r := ((k + 1 : Nat) : Int)) (k := .i64) (a := ((k : Nat) : Int)) (b := 1) rfl rfl (by rw [show (((k : Nat) : Int) + 1 : Int) = ((k + 1 : Nat) : Int) from bo]; exact zz av) (st (mV (Iw (k + 1)) (zb ?_))))
 exact ⟨_, by omega, k + 1, _, rfl, sSf, by omega, au⟩

theorem el22 : Elem Tryd.prog 22 33 1 24 := ⟨tT, _, _, rfl, rfl, rfl, rfl, rfl⟩
theorem VU {G : Nat → Prop} {W w : World} {Rs : List HP} {d : Dcl} {dd0 : Value} (hdd0 : RdS W G dd0 d.types) {dd1 : Value} (hdd1 : RdS W G dd1 d.projs) (od : d.Ok) (hS0 : Sep G W Rs w) : Ret Tryd.prog 57 [.agg (d.cells dd0 dd1).toArray] w (fun r w' => ∃ (v1 : Value) (v2 : Value), r = (.agg (d.cells v1 v2).toArray : Value) ∧ Sep G W ((RowE (α := Typ) own 33 v1 d.types) :: (RowE (α := Prj) own 107 v2 d.projs) :: Rs) w') := by
 have hdd0s : _ * 24 ≤ _ := hdd0.small
 have hdd1s : _ * 40 ≤ _ := hdd1.small
 refine zl (args := [.agg (d.cells dd0 dd1).toArray]) Tryd.func57 rfl rfl ?_
 refine za (R0 fun _ => st (zR (v := .agg (d.cells dd0 dd1).toArray) rfl ?_))
 intro w3 b2 aH
 refine st (zr tA ?_)
 intro w7 H aI
 have ag := (hS0.new aH).new aI
 refine zb (za (R0 fun _ => st (xW rfl (st (lD dd1 Tryd.isAgg23 rfl (zd (ag.b1) rfl) (st (cL Tryd.call87 (VB (l := d.projs) (vl := dd1) hdd1 ag) ?_)))))))
 rintro g w10 ⟨_, rfl, I⟩
 have s := I.r0
 have hr12s : _ * 40 ≤ _ := s.2
 have ok13 : Dcl.Ok (⟨[], d.projs⟩ : Dcl) := ⟨⟩
 refine st (zQ (parts' := [(1, g)]) (v := .agg ((⟨[], d.projs⟩ : Dcl).cells (Iz) g).toArray) rfl (by obtain ⟨_, _, ai, _⟩ := s.1; rw [show g = Value.slice _ _ _ from ai]; simp [Instr.build, Instr.fill, Ev.cells, go_sem, Mv.cells, Fld.cells, Typ.cells, Prj.cells, Dcl.cells, Cel.cells, AskR.cells, Ask.cells, CelS.cells, Ev.cells, Ent.cells, Sta.cells]) (st (zr tA ?_)))
 intro w17 z aj
 have J := I.new aj
 refine stn (zp (v := .agg ((⟨[], d.projs⟩ : Dcl).cells (Iz) g).toArray) (c' := ((⟨[], d.projs⟩ : Dcl).cells (Iz) g).toArray) mR rfl rfl (J.b0) (zW ⟨rfl, s.1.one, trivial⟩) yqc rfl ?_)
 intro w19 ak
 have K := J.pt0 ak
 refine zb (za (za (R0 fun _ => st (yn rfl (st (lD dd0 oR rfl (zd (K.b3) rfl) (st (zA (n := d.types.length) tT rfl hdd0.sl (st (mV (Iv 0) (zb (zn ?_))))))))))))
 have al : Sep _ _ ((RowE (α := Typ) own 33 (Iz) ([] : List Typ)) :: _) _ := K.rowNil own 33
 refine zX (fun mq σ wq => ∃ (k : Nat) (vo : Value) (ρ : Env), mq = d.types.length - k ∧ σ = yb ρ [(1, Ix b2 0), (2, Ix H 0), (3, Ix z 0), (13, dd0), (14, Iw d.types.length), (15, Iw k)] ∧ (k ≤ d.types.length) ∧ Sep G W ((RowE (α := Typ) own 33 vo (d.types.take k)) :: (Blk z #[vo, g] 25) :: (RowE (α := Prj) own 107 g d.projs) :: (Blk H #[(Iz), (Iz)] 25) :: (Blk b2 (d.cells dd0 dd1).toArray 25) :: Rs) wq) ⟨0, (Iz), _, rfl, sSf, Nat.zero_le _, al⟩ ?_
 rintro m24 σ25 w23 ⟨k, vo, ρl1, rfl, rfl, hkk, h⟩
 have an := h.r0
 have hr27s : _ * 24 ≤ _ := an.2
 refine za (R0 fun _ => st (zD (k := .i64) (a := ((k : Nat) : Int)) (b := ((d.types.length : Nat) : Int)) rfl rfl (zb (za ?_))))
 cases t : decide (((k : Nat) : Int) < ((d.types.length : Nat) : Int))
 have t := fD t
 have hkn : k = d.types.length := by omega
 rw [hkn, List.take_of_length_le (Nat.le_refl d.types.length)] at h
 have L := h.r0
 have hr29s : _ * 24 ≤ _ := L.2
 refine zi rfl (zU (zI (za (R0 fun _ => ?_))))
 have ok30 : Dcl.Ok d := ⟨⟩
 refine st (zg (k := 2) rR mR rfl rfl (CellsAt.all (h.b1)) (stn (zp (v := .agg (d.cells vo g).toArray) (c' := (d.cells vo g).toArray) mR rfl rfl (h.b3) (zW ⟨L.1.one, s.1.one, trivial⟩) yqc rfl ?_)))
 intro aJ ao
 have M := h.pt3 ao
 refine zb (zm (XK (b := H) Tryd.results57 rR mR rfl rfl (CellsAt.all (M.b3)) ?_))
 have ap : Sep G W ((RowE (α := Typ) own 33 vo d.types) :: (RowE (α := Prj) own 107 g d.projs) :: Rs) aJ := M.sel 5 [0, 2] (Nat.le_add_left _ _) rfl rfl
 refine ⟨vo, g, rfl, ap⟩
 have t := tD t
 refine zj rfl (zk (za (zn (za (R0 fun _ => ?_)))))
 have aq : k < d.types.length := bo
 refine st (ze (k := 1) (i := k) tT oT rfl hdd0.sl rfl aq ?_)
 have N : k < d.types.length := bo
 obtain ⟨ad, m, hoke36⟩ := hdd0.typD N
 have hsm38 : ((d.types.getD k default).fields).length * 48 ≤ 140737488355328 := m.small
 have ae := h.cells ad (hdd0.foot (ne_of_lt N))
 refine st (zg (k := 1) uT oT rfl rfl ae (st (zr vR ?_)))
 intro w42 O ar
 have P := h.new ar
 refine stn (zp (v := .agg ((d.types.getD k default).cells (zy W (sb dd0) (so dd0 + k * 1 + 0))).toArray) (c' := ((d.types.getD k default).cells (zy W (sb dd0) (so dd0 + k * 1 + 0))).toArray) oT rfl rfl (P.b0) (zW ⟨m.sl.one, trivial⟩) yqc rfl ?_)
 intro w44 au
 have Q := P.pt0 au
 refine zb (za (R0 fun _ => st (yv rfl (st (lD (zy W (sb dd0) (so dd0 + k * 1 + 0)) uA rfl (zd (Q.b0) rfl) (st (cL Tryd.call88 (VQ (l := (d.types.getD k default).fields) (vl := (zy W (sb dd0) (so dd0 + k * 1 + 0))) m Q) ?_)))))))
 rintro e w48 ⟨_, rfl, R⟩
 have S := R.r0
 have hr50s : _ * 48 ≤ _ := S.2
 refine st (aS e (zb (za (za (R0 fun _ => st (mV e (st (zA (n := ((d.types.getD k default).fields).length) vT rfl S.1 (st (mV (Iv 0) (zb (zn ?_))))))))))))
 have av := R.toMix
 refine zX (fun mq σ wq => ∃ (q : Nat) (ρ : Env), mq = ((d.types.getD k default).fields).length - q ∧ σ = yb ρ [(1, Ix b2 0), (2, Ix H 0), (3, Ix z 0), (5, Ix O 0), (6, e), (13, dd0), (14, Iw d.types.length), (15, Iw k), (23, Iw (((d.types.getD k default).fields).length)), (24, Iw q)] ∧ (q ≤ ((d.types.getD k default).fields).length) ∧ Sep G W ((RowE (α := Bool × Fld) (mix (α := Fld) G W) 79 e (xX q ((d.types.getD k default).fields))) :: (Blk O ((d.types.getD k default).cells (zy W (sb dd0) (so dd0 + k * 1 + 0))).toArray 33) :: (RowE (α := Typ) own 33 vo (d.types.take k)) :: (Blk z #[vo, g] 25) :: (RowE (α := Prj) own 107 g d.projs) :: (Blk H #[(Iz), (Iz)] 25) :: (Blk b2 (d.cells dd0 dd1).toArray 25) :: Rs) wq) ⟨0, _, rfl, sSf, Nat.zero_le _, av⟩ ?_
 rintro m53 σ54 aK ⟨q, ρl2, rfl, rfl, hkq, x⟩
 have B := x.r0
 rw [xx] at B
 refine za (R0 fun _ => st (zD (k := .i64) (a := ((q : Nat) : Int)) (b := ((((d.types.getD k default).fields).length : Nat) : Int)) rfl rfl (zb (za ?_))))
 cases y : decide (((q : Nat) : Int) < ((((d.types.getD k default).fields).length : Nat) : Int))
 have y := fD y
 have C : Sep G W ((RowE (α := Fld) own 79 e ((d.types.getD k default).fields)) :: (Blk O ((d.types.getD k default).cells (zy W (sb dd0) (so dd0 + k * 1 + 0))).toArray 33) :: (RowE (α := Typ) own 33 vo (d.types.take k)) :: (Blk z #[vo, g] 25) :: (RowE (α := Prj) own 107 g d.projs) :: (Blk H #[(Iz), (Iz)] 25) :: (Blk b2 (d.cells dd0 dd1).toArray 25) :: Rs) aK := x.ofMix om
 have T := C.r0
 have hr59s : _ * 48 ≤ _ := T.2
 refine zi rfl (zU (zI (R0 fun _ => st (yn rfl (st (lD vo oR rfl (zd (C.b3) rfl) (st (mV e ?_))))))))
 have aw : Typ.Ok (d.types.getD k default) := ⟨⟩
 refine st (zQ (parts' := [(0, e)]) (v := .agg ((d.types.getD k default).cells e).toArray) rfl (by obtain ⟨_, _, ax, _⟩ := T.1; rw [show e = Value.slice _ _ _ from ax]; simp [Instr.build, Instr.fill, Ev.cells, go_sem, Mv.cells, Fld.cells, Typ.cells, Prj.cells, Dcl.cells, Cel.cells, AskR.cells, Ask.cells, CelS.cells, Ev.cells, Ent.cells, Sta.cells]) (st (zu (k := 1) (parts' := [(0, .agg ((d.types.getD k default).cells e).toArray)]) (c := ((d.types.getD k default).cells e).toArray) tT oT vR (by decide) rfl (by kernel_rfl) ?_)))
 intro w64 b63 ay
 have U := C.new ay
 have af := U.b0
 refine st (yj (src := own) (bytes := 24) (x1 := (d.types.getD k default)) (U.s8_dbcefgh) el22 rfl rfl af (fun _ _ hN => ⟨_, rfl, RowE.soft hN, aw⟩) yqb rfl ?_)
 intro V w66 D
 have X := D.r0
 have hr71s : _ * 24 ≤ _ := X.2
 refine st (yn rfl (stn (yp (v := V) (c := [vo, g]) (c' := [V, g]) Tryd.sizeOf22 rfl rfl (D.b2) X.1.one rfl rfl ?_)))
 intro w72 aA
 have ok74 : Dcl.Ok (⟨(d.types.take k) ++ [(d.types.getD k default)], d.projs⟩ : Dcl) := ⟨⟩
 refine zb (R0 fun _ => ?_)
 have aB : InR ((k + 1 : Nat) : Int) := bo
 refine st (zH (r := ((k + 1 : Nat) : Int)) (k := .i64) (a := ((k : Nat) : Int)) (b := 1) rfl rfl (by rw [show (((k : Nat) : Int) + 1 : Int) = ((k + 1 : Nat) : Int) from bo]; exact zz aB) (st (mV (Iw (k + 1)) (zb ?_))))
 have Y := (D.pt2 aA).s6_acdef
 have aC : (d.types.take (k + 1)) = (d.types.take k) ++ [(d.types.getD k default)] := (List.take_getD om)
 rw [← aC] at Y
 exact ⟨_, by omega, k + 1, V, _, rfl, sSf, by omega, Y⟩
 have y := tD y
 refine zj rfl (zk (za (zn (za (R0 fun _ => st (mV (Iw q) (st (aS (Iw q) (zb (R0 fun _ => st (mV e (st (mV (Iw q) (st (mV e (st (mV (Iw q) ?_)))))))))))))))))
 have aD : q < ((d.types.getD k default).fields).length := bo
 refine st (ze (k := 4) (i := q) vT qR rfl B.1 rfl aD (st (yu rfl ?_)))
 have Z : q < ((d.types.getD k default).fields).length := bo
 obtain ⟨_, F, A, rfl, p, aa⟩ := x.mixAt (i := 0) (j := q) rfl (Nat.le_refl _) Z
 rw [← zG default Z] at F p aa
 refine st (lD A Tryd.isAgg77 rfl (F.get (j := 3) rfl) (st (cL Tryd.call67 (Wd (l := (((d.types.getD k default).fields).getD q default).moves) (vl := A) p x) ?_)))
 rintro ah w83 ⟨_, rfl, ab⟩
 have E := ab.r0
 have hr85s : _ * 32 ≤ _ := E.2
 have aE : q < ((d.types.getD k default).fields).length := bo
 refine st (ze (k := 4) (i := q) vT qR rfl B.1 rfl aE (st (yu rfl ?_)))
 have ac : q < ((d.types.getD k default).fields).length := bo
 refine stn (Yy (α := Fld) (j := q) (o := 3) (u := ah) (us := [ah]) (ab.mv1) Tryd.sizeOf77 ac rfl rfl (congrArg Array.toList (xf E.1.one)) (Nat.le_of_ble_eq_true rfl) (zW ⟨E.1.one, trivial⟩) (fun w f cs0 hr hN => (by obtain ⟨d, rfl, hd, hok⟩ := hr; exact ⟨_, rfl, (by rw [← zG default ac]; exact RowE.soft hN), hok⟩)) ?_)
 intro w87 aF
 refine zb (R0 fun _ => ?_)
 have aG : InR ((q + 1 : Nat) : Int) := bo
 refine st (zH (r := ((q + 1 : Nat) : Int)) (k := .i64) (a := ((q : Nat) : Int)) (b := 1) rfl rfl (by rw [show (((q : Nat) : Int) + 1 : Int) = ((q + 1 : Nat) : Int) from bo]; exact zz aG) (st (mV (Iw (q + 1)) (zb ?_))))
 exact ⟨_, by omega, q + 1, _, rfl, sSf, by omega, aF⟩

theorem Ww {G : Nat → Prop} {W w : World} {Rs : List HP} {d : Dcl} {dd0 : Value} (hdd0 : RdS W G dd0 d.types) {dd1 : Value} (hdd1 : RdS W G dd1 d.projs) (od : d.Ok) (hS0 : Sep G W Rs w) : Ret Tryd.prog 24 [.agg (d.cells dd0 dd1).toArray] w (fun r w' => ∃ (b : Nat), r = (.pointer (some ⟨b, 0, none⟩) : Value) ∧ Sep G W ((ViewO b d [] []) :: Rs) w') := by
 have hdd0s : _ * 24 ≤ _ := hdd0.small
 have hdd1s : _ * 40 ≤ _ := hdd1.small
 refine zl (args := [.agg (d.cells dd0 dd1).toArray]) Tryd.func24 rfl rfl ?_
 refine za (R0 fun _ => st (zR (v := .agg (d.cells dd0 dd1).toArray) rfl ?_))
 intro w3 b2 y
 have l := hS0.new y
 refine st (aS (.pointer none) (zb (za (R0 fun _ => st (zg (k := 2) rR mR rfl rfl (CellsAt.all (l.b0)) (st (cL Tryd.call57 (VU (d := d) hdd0 hdd1 od l) ?_)))))))
 rintro _ C ⟨a, c, rfl, h⟩
 have A := h.r0
 have hr9s : _ * 24 ≤ _ := A.2
 have n := h.r1
 have hr10s : _ * 40 ≤ _ := n.2
 refine st (Yg ?_)
 intro m o
 obtain ⟨e, i⟩ : ∃ z, z = C.heap.size := ⟨_, rfl⟩; rw [← i]
 have p : Sep G W ((yO xL E1 e (fun _ => none)) :: (RowE (α := Typ) own 33 a d.types) :: (RowE (α := Prj) own 107 c d.projs) :: (Blk b2 (d.cells dd0 dd1).toArray 25) :: Rs) m := (by rw [i]; exact h.mapoNew o)
 refine st (Yg ?_)
 intro B q
 obtain ⟨f, j⟩ : ∃ z, z = m.heap.size := ⟨_, rfl⟩; rw [← j]
 have s : Sep G W ((yO xG E2 f (fun _ => none)) :: (yO xL E1 e (fun _ => none)) :: (RowE (α := Typ) own 33 a d.types) :: (RowE (α := Prj) own 107 c d.projs) :: (Blk b2 (d.cells dd0 dd1).toArray 25) :: Rs) B := (by rw [j]; exact p.mapoNew q)
 refine st (zQ (parts' := [(0, .agg (d.cells a c).toArray), (2, .map (some e)), (3, .map (some f))]) (v := .agg #[a, c, (Iz), .map (some e), .map (some f)]) rfl (by simp [Instr.build, Instr.fill, go_sem, Dcl.cells]) (st (zR (v := .agg #[a, c, (Iz), .map (some e), .map (some f)]) rfl ?_)))
 intro w21 g t
 refine st (aS (Ix g 0) (zb (zm (zL Tryd.results24 (show _ = (Ix g 0 : Value) from rfl) ?_))))
 have u : Sep _ _ ((RowE (α := Ent) own 62 (Iz) ([] : List Ent)) :: _) _ := (s.new t).rowNil own 62
 have x : Sep _ _ ((ViewO g d [] []) :: _) _ := ViewO.close (d := d) (L := []) (M := []) (u.s7_befadcg)
 refine ⟨g, rfl, (x.s2_a)⟩

theorem Um {P : Program} {n : Nat} {c : Code} {Q : ZV} {σ : Env} {w : World} (J : Env → World → Prop) (h : WP P n c (fun e σ w => e = .normal ∧ J σ w) σ w) (hq : ∀ σ w, J σ w → Q .normal σ w) : WP P n c Q σ w := fun a hs =>
  wp_mono (h a hs) (by rintro e a' w' ⟨σ'', hs'', rfl, hj⟩; exact ⟨σ'', hs'', hq _ _ hj⟩)
abbrev RwV (v : Value) (l : List Ev) : HP := RowE (α := Ev) own 59 v l
abbrev RwN (v : Value) (l : List Ent) : HP := RowE (α := Ent) own 62 v l
abbrev RwT (v : Value) (l : List Typ) : HP := RowE (α := Typ) own 33 v l
abbrev RwP (v : Value) (l : List Prj) : HP := RowE (α := Prj) own 107 v l
abbrev RwI (v : Value) (l : List Int) : HP := RowE (α := Int) own 3 v l
abbrev RwC (v : Value) (l : List Cel) : HP := RowE (α := Cel) own 42 v l
abbrev Ms1 (m : Nat) (d : Dcl) (M : List Ent) (k : Int × Int) (vc : Value) : HP := Zi xL E1 Vr m (zh d M) k (.agg #[.int .i64 ((yd k M : Nat) : Int), vc])
abbrev Md1 (m : Nat) (M : List Ent) (e : Ev) (v : Value) : HP := Zi xG E2 (.slice none 0 0) m (yt M) (e.typ, e.agg, e.field) v
abbrev BkP (b : Nat) (e : Ev) : HP := Blk b #[.int .i64 e.typ, .int .i64 e.agg, .int .i64 e.field] 133
abbrev BkT (b : Nat) (d : Dcl) (e : Ev) (W : World) (v : Value) : HP := Blk b ((d.types.getD e.typ.toNat default).cells (zy W (sb v) (so v + e.typ.toNat * 1 + 0))).toArray 33
abbrev BkV (b : Nat) (vt vp ve : Value) (m4 m5 : Nat) : HP := Blk b #[vt, vp, ve, .map (some m4), .map (some m5)] 111
abbrev BkS (b : Nat) (M : List Ent) (k : Int × Int) (v : Value) : HP := Blk b #[.int .i64 ((yd k M : Nat) : Int), v] 68
abbrev clL (d : Dcl) (M : List Ent) (e : Ev) : List Cel := zT d (e.typ, e.agg) M
theorem ZF {P : Program} {σ : Env} {w : World} {fn : Func} {a u : Tmp} {t : TypeId} {R : Value → World → Prop} {b k : Nat} {cs : List Value} {v' : Value} (hr : fn.results = #[.tmp u, .cell a t]) (hA : ∀ w, (isAgg t).run P w = .ok true w) (hS : ∀ w, (sizeOf t).run P w = .ok k w) (hk : cs.length = k)
    (hv : σ a = .pointer (some ⟨b, 0, none⟩)) (hc : CellsAt w b 0 cs) (hu : σ u = v') (h : R (.tuple #[v', .agg cs.toArray]) w) : XH P fn R .ret σ w := by
  subst hk
  refine ⟨_, fun tmps ht => ?_, h⟩
  have := yS (P := P) (w := w) b 0 cs 0 #[] (fun j hj => by simpa using hc j hj)
  have e : tmps[a]?.getD undef = .pointer (some ⟨b, 0, none⟩) := by rw [← hv, ← ht a]; simp
  have e2 : tmps[u]?.getD undef = v' := by rw [← hu, ← ht u]; simp
  simp [results, hr, e, e2, asAddr, loadVar, hA, hS, loadCells, this, go_sem]
theorem Uu {p : Ev → Bool} : ∀ {l : List Ev} {k : Nat}, k < l.length → (∀ i, i < k → p (l.getD i default) = false) → p (l.getD k default) = true → l.find? p = some (l.getD k default)
  | [], k, hk, _, _ => absurd hk (Nat.not_lt_zero k)
  | x :: l, 0, _, _, h1 => by have h1 : p x = true := h1; rw [List.find?_cons, h1]; rfl
  | x :: l, k + 1, hk, h0, h1 => by
    have hx : p x = false := h0 0 (Nat.succ_pos _)
    rw [List.find?_cons, hx]
    exact Uu (by simpa using hk) (fun i hi => h0 (i + 1) (by omega)) h1
theorem Kq {p : Ev → Bool} {l : List Ev} (h : ∀ i, i < l.length → p (l.getD i default) = false) : l.find? p = none := by
  rw [List.find?_eq_none]
  intro x hx
  obtain ⟨i, hi, rfl⟩ := List.getElem_of_mem hx
  have := h i hi
  rw [zG _ hi] at this
  rw [this]; decide
theorem Ke (k : Int × Int × Int) (L : List Ent) : (yf k L).length ≤ L.length := by unfold yf; rw [List.length_map]; exact List.length_filter_le _ _
section
variable {d : Dcl} {M : List Ent} {e : Ev}
theorem Yc (h : ¬ yE d e.typ e.field e.op e.arg = 0) : zJ d M e = (true, 0, 0) := by unfold zJ; rw [if_pos h]
theorem Jy {k : Nat} (h : yE d e.typ e.field e.op e.arg = 0) (hk : k < (yf (e.typ, e.agg, e.field) M).length) (h0 : ∀ i, i < k → yA ((d.types.getD e.typ.toNat default).fields.getD e.field.toNat default) ((yf (e.typ, e.agg, e.field) M).getD i default) e = false)
    (h1 : yA ((d.types.getD e.typ.toNat default).fields.getD e.field.toNat default) ((yf (e.typ, e.agg, e.field) M).getD k default) e = true) : zJ d M e = (true, ((yf (e.typ, e.agg, e.field) M).getD k default).origin, ((yf (e.typ, e.agg, e.field) M).getD k default).seq) := by
  unfold zJ xB
  rw [if_neg (by simpa using h), Uu (p := fun x => yA ((d.types.getD e.typ.toNat default).fields.getD e.field.toNat default) x e) hk h0 h1]
theorem Ki (h : yE d e.typ e.field e.op e.arg = 0) (h0 : ∀ i, i < (yf (e.typ, e.agg, e.field) M).length → yA ((d.types.getD e.typ.toNat default).fields.getD e.field.toNat default) ((yf (e.typ, e.agg, e.field) M).getD i default) e = false) :
    zJ d M e = if ¬ yY (d.types.getD e.typ.toNat default) (zT d (e.typ, e.agg) M) e.field e.op e.arg = 0 then (true, 0, 0) else (false, 0, 0) := by
  unfold zJ xB
  rw [if_neg (by simpa using h), Kq (p := fun x => yA ((d.types.getD e.typ.toNat default).fields.getD e.field.toNat default) x e) h0]
end
theorem WS {G : Nat → Prop} {W w : World} {As : List HP} {d : Dcl} {M : List Ent} {v2 vc : Value} {k : Int × Int} (h : Sep G W (RowE (α := Cel) own 42 v2 (zT d k M) :: As) w) (hv : v2 = vc ∨ yd k M = 0) : Sep G W (Yr E1 (.agg #[.int .i64 ((yd k M : Nat) : Int), vc]) (zh d M k) :: As) w := by
  refine h.impl (i := 0) rfl (fun f hA => ?_)
  unfold zh
  by_cases he : yd k M = 0
  · rw [if_pos he]; exact trivial
  · rw [if_neg he]
    obtain rfl := hv.resolve_right he
    exact ⟨v2, rfl, hA⟩
theorem Vx {d : Dcl} {M : List Ent} {k : Int × Int} (h : (zh d M k).isSome = false) : yd k M = 0 := by
  unfold zh at h
  by_cases h8 : yd k M = 0
  · exact h8
  · rw [if_neg h8] at h; cases h
theorem WY {d : Dcl} {M : List Ent} {k : Int × Int} (h : (zh d M k).isSome = true) : ¬ yd k M = 0 := by
  intro h8
  unfold zh at h
  rw [if_pos h8] at h; cases h
theorem QQ {t : Typ} {c : List Cel} {f : Int} (h : Right t c) (h0 : 0 ≤ f) (h1 : f < t.fields.length) : (yi c f).set.length ≤ 1000 := by
  have := h.most f.toNat (by have := h.len; omega)
  exact Nat.le_trans this (by omega)
theorem Jb : Elem Tryd.prog 47 59 10 96 := ⟨pR, _, _, rfl, rfl, rfl, rfl, rfl⟩
set_option maxHeartbeats 8000000 in
theorem D_try {G : Nat → Prop} {W w : World} {Rs : List HP} {b : Nat} {d : Dcl} {L : List Ent} {M : List Ent} {e : Ev} {ve0 : Value} (oe : e.Ok) (hKN : RdS W G (.slice (some ⟨0, 0, none⟩) 6 6) kindsL) (hS0 : Sep G W ((ViewO b d L M) :: (RowE (α := Int) own 3 ve0 e.deps) :: Rs) w) (hd : DclOk d) (hinv : Inv d M) (hml : M.length ≤ 1000000) : Ret Tryd.prog 59 [.pointer (some ⟨b, 0, none⟩), .agg (e.cells ve0).toArray] w (fun r w' => r = (.tuple #[.bool ((zJ d M e).1), .agg #[.int .i64 ((zJ d M e).2.1), .int .i64 ((zJ d M e).2.2)]] : Value) ∧ (InR (zJ d M e).2.1 ∧ InR (zJ d M e).2.2) ∧ Sep G W ((ViewO b d L (M ++ [ya d M e])) :: Rs) w') := by
 let jW := ViewO b d L (M ++ [ya d M e])
 let bi := (e.typ, e.agg, e.field)
 have hKNs : _ * 8 ≤ _ := hKN.small
 refine zl (args := [Ix b 0, .agg (e.cells ve0).toArray]) Tryd.func59 rfl rfl ?_
 obtain ⟨l, O, T, P, R, jK⟩ := ViewO.open hS0
 let jU := yO xG E2 R (yt M)
 let jS := yO xL E1 P (zh d M)
 let hv := yO xL E1 P (ZW (zh d M) (e.typ, e.agg) (yd (e.typ, e.agg) M + 1, (doL (d.types.getD e.typ.toNat default) (clL d M e) e.field e.op e.arg)))
 have bb : Sep G W ((BkV b l O T P R) :: (RwT l d.types) :: (RwP O d.projs) :: (RwN T L) :: jS :: jU :: (RwI ve0 e.deps) :: Rs) w := jK
 have jL := bb.r1
 have hr7s : _ * 24 ≤ _ := jL.2
 have jM := bb.r2
 have hr8s : _ * 40 ≤ _ := jM.2
 have jN := bb.r3
 have hr9s : _ * 120 ≤ _ := jN.2
 have jk := bb.r6
 have hr10s : _ * 8 ≤ _ := jk.2
 refine za (R0 fun _ => st (zR (v := .agg (e.cells ve0).toArray) rfl ?_))
 intro w13 s jl
 let bG := Blk s (e.cells ve0).toArray 59
 refine st (aS (.bool false) (st (zr vA ?_)))
 intro w17 I jm
 let jR := Blk I #[Iv 0, Iv 0] 57
 refine zb (za (za ?_))
 refine WD4 ((fun TT J ab ad => WF [fun vals B => Sep G W (J :: ab :: ad :: (RwT l d.types) :: (RwP O d.projs) :: TT) B, fun vals B => (vals 12 = (Iv (yE d e.typ e.field e.op e.arg) : Value)) ∧ Sep G W ((RwT l d.types) :: (RwP O d.projs) :: J :: ab :: ad :: TT) B]) ((RwN T L) :: jS :: jU :: (RwI ve0 e.deps) :: Rs) jR bG (BkV b l O T P R)) (AF [Vl 0 (Ix b 0), Vl 1 (Ix b 0), Vl 2 (Ix b 0), Vl 3 (.agg (d.cells l O).toArray), Vl 4 (Ix s 4), Vl 5 (Iv (e.typ)), Vl 6 (Ix s 6), Vl 7 (Iv (e.field)), Vl 8 (Ix s 7), Vl 9 (Iv (e.op)), Vl 10 (Ix s 8), Vl 11 (Iv (e.arg)), fun _ => True, Vl 13 (.bool (!decide ((yE d e.typ e.field e.op e.arg) = 0)))]) [[], [0], [0, 1], [0, 1, 2], [], [4], [], [6], [], [8], [], [10], (rg 12), (rg 13)] [12] [(0, 0), (0, 0), (0, 0), (0, 0), (0, 0), (0, 0), (0, 0), (0, 0), (0, 0), (0, 0), (0, 0), (0, 0), (0, 0), (1, 1)] ((bb.new jl).new jm) ⟨fun _ _ _ _ _ _ _ => obl rfl (mV (Ix b 0) dR), fun _ _ _ _ _ _ gr => obl rfl (zE (b := b) (o := 0) (gr 0 dc) dR), fun _ _ _ _ _ _ gs => obl rfl (Uw (gs 1 dc) dR), ?_, fun _ _ _ _ _ _ _ => obl rfl (yB rfl dR), ob1 0 fun _ _ (gt : Sep _ _ _ _) gu => obl rfl (lD (Iv (e.typ)) lT (gu 4 dc) (zd (gt.b1) rfl) dR), fun _ _ _ _ _ _ _ => obl rfl (yU rfl dR), ob1 0 fun _ _ (gv : Sep _ _ _ _) gw => obl rfl (lD (Iv (e.field)) lT (gw 6 dc) (zd (gv.b1) rfl) dR), fun _ _ _ _ _ _ _ => obl rfl (xh rfl dR), ob1 0 fun _ _ (gx : Sep _ _ _ _) gy => obl rfl (lD (Iv (e.op)) lT (gy 8 dc) (zd (gx.b1) rfl) dR), fun _ _ _ _ _ _ _ => obl rfl (xg rfl dR), ob1 0 fun _ _ (gz : Sep _ _ _ _) gA => obl rfl (lD (Iv (e.arg)) lT (gA 10 dc) (zd (gz.b1) rfl) dR), ?_, ?_, trivial⟩ ?_
 refine ob1 0 fun _ _ (gB : Sep _ _ _ _) gC => (obl rfl ?_)
 have ok172 : Dcl.Ok d := ⟨⟩
 exact zg (k := 2) (cs := [l, O]) rR mR rfl (gC 2 dc) (CellsAt.sub (CellsAt.all (gB.b2)) 0 (cs2 := [l, O]) rfl) dR
 refine ob1 0 fun vals _ (gD : Sep _ _ _ _) aq => (obl rfl ?_)
 obtain ⟨G117, gE, gF, gG, gH⟩ := (gD.mv3).lend
 have bK := RowE.rd gE
 have hrd123s : _ * 24 ≤ _ := bK.small
 obtain ⟨G125, gI, cR, gJ, gK⟩ := (gG.mv3).lend
 have bL := RowE.rd gI
 have hrd131s : _ * 40 ≤ _ := bL.small
 refine (zV (f := 15) (vals := [.agg (d.cells l O).toArray, Iv (e.typ), Iv (e.field), Iv (e.op), Iv (e.arg)]) (cap := []) rfl (yH ⟨(aq 3 dc), (aq 5 dc), (aq 7 dc), (aq 9 dc), (aq 11 dc), trivial⟩) Tryd.call15 (QZ (d := d) (ty := e.typ) (f := e.field) (op := e.op) (arg := e.arg) (RdS.base bK cR) bL (⟨⟩ : Dcl.Ok d) oe.typ oe.field oe.op oe.arg (RdS.base (RdS.base hKN gF) cR) gJ) ?_)
 rintro _ w132 ⟨rfl, gL⟩
 have gM := gK _ _ gL
 have gN := gH _ _ gM
 exact fun C Q D => ⟨(And.intro Q gN), trivial⟩
 refine ob1 1 fun _ _ gO _ => ?_
 obtain ⟨cS, hS235⟩ := gO
 exact obl rfl (yh (k := .i64) (a := yE d e.typ e.field e.op e.arg) (b := 0) cS rfl dR)
 intro vals p gP gQ
 let bF := zy p (sb l) (so l + e.typ.toNat * 1 + 0)
 let jO := (d.types.getD e.typ.toNat default).cells bF
 obtain ⟨cS, cT⟩ := gP
 have jn := gQ 13 dc
 refine zZ (kv := [(0, Ix b 0), (1, .agg (e.cells ve0).toArray), (3, Ix s 0), (4, .bool false), (5, Ix I 0), (25, .bool (!decide ((yE d e.typ e.field e.op e.arg) = 0)))]) ⟨rfl, rfl, rfl, rfl, rfl, (by exact jn), trivial⟩ (fun ρw236 => (zb ?_))
 cases ag : !decide ((yE d e.typ e.field e.op e.arg) = 0)
 have ag := zB ag
 have hfo := ZK ag
 have hfz := ag
 have dJ := hfo.1; have dK := hfo.2.1; have hft := hfo.2.2
 have hfl := hft.lo; have hfh := hft.hi
 refine zi rfl (zk (za ?_))
 have cU := cT.s9_acdeghibf
 generalize bx : ((RwP O d.projs) :: (RwN T L) :: Rs) = aj at cU
 obtain ⟨N, gR, hB248, gS, bz⟩ := cU.lend
 have K := RowE.rd gR
 have hrd251s : _ * 24 ≤ _ := K.small
 refine WD6 ((fun TT J => WF [fun vals B => Sep N p (J :: TT) B, fun vals B => ∃ (j : Nat), (vals 17 = (Ix j 0 : Value)) ∧ Sep N p ((Blk j #[(Iz)] 33) :: J :: TT) B, fun vals B => ∃ (g : Nat), (vals 18 = (Ix g 0 : Value)) ∧ Sep N p ((Blk g #[Iv 0, Iv 0, Iv 0] 133) :: J :: TT) B, fun vals B => ∃ (j : Nat) (g : Nat), (vals 17 = (Ix j 0 : Value)) ∧ (vals 18 = (Ix g 0 : Value)) ∧ Sep N p ((Blk g #[Iv 0, Iv 0, Iv 0] 133) :: (Blk j #[(Iz)] 33) :: J :: TT) B, fun _ _ => True, fun _ _ => True, fun _ _ => True, fun vals B => ∃ (j : Nat) (g : Nat), (vals 17 = (Ix j 0 : Value)) ∧ (vals 18 = (Ix g 0 : Value)) ∧ Sep N p ((Blk g #[Iv 0, Iv 0, Iv 0] 133) :: (BkT j d e p l) :: J :: TT) B, fun _ _ => True, fun _ _ => True, fun _ _ => True, fun _ _ => True, fun _ _ => True, fun _ _ => True, fun _ _ => True, fun vals B => ∃ (j : Nat) (g : Nat), (vals 17 = (Ix j 0 : Value)) ∧ (vals 18 = (Ix g 0 : Value)) ∧ Sep N p ((BkP g e) :: (BkT j d e p l) :: J :: TT) B]) (bG :: (BkV b l O T P R) :: jS :: jU :: (RwI ve0 e.deps) :: aj) jR) (AF [Vl 0 (Ix b 0), Vl 1 (Ix b 0), Vl 2 (Ix b 0), Vl 3 (Ix b 0), Vl 4 (l), Vl 5 (Ix s 4), Vl 6 (Iv (e.typ)), Vl 7 (Ix (sb l) (so l + e.typ.toNat * 1)), Vl 8 (.agg jO.toArray), Vl 9 (Ix s 4), Vl 10 (Iv (e.typ)), Vl 11 (Ix s 5), Vl 12 (Iv (e.agg)), Vl 13 (.agg #[Iv (e.typ), Iv (e.agg)]), Vl 14 (Ix s 6), Vl 15 (Iv (e.field)), Vl 16 (.agg #[Iv (e.typ), Iv (e.agg), Iv (e.field)]), fun _ => True, fun _ => True, fun _ => True, fun _ => True]) [[], [0], [0, 1], [0, 1, 2], (rg 4), [], [5], (rg 7), (rg 8), [], [9], [], [11], [9, 10, 11, 12], [], [14], [9, 10, 11, 12, 13, 14, 15], [], [], [0, 1, 2, 3, 4, 5, 6, 7, 8, 17, 18], (rg 20)] [17, 18, 19, 20] [(rg 4), (rg 4), (rg 4), (rg 4), (rg 4), (rg 4), (rg 4), (rg 4), (rg 4), [0, 1, 2, 3, 7], [0, 1, 2, 3, 7], [0, 1, 2, 3, 7], [0, 1, 2, 3, 7], [0, 1, 2, 3, 7], [0, 1, 2, 3, 7], [0, 1, 2, 3, 7], [0, 1, 2, 3, 7], [0, 2], [0, 1], [3], [7]] gS ⟨fun _ _ _ _ _ _ => obl rfl (mV (Ix b 0) dR), fun _ _ _ _ _ gT => obl rfl (zE (b := b) (o := 0) (gT 0 (by decide)) dR), fun _ _ _ _ _ gU => obl rfl (Uw (gU 1 (by decide)) dR), fun _ _ _ _ _ gV => obl rfl (yn (gV 2 (by decide)) dR), ?_, fun _ _ _ _ _ _ => obl rfl (yB rfl dR), ?_, ?_, ?_, fun _ _ _ _ _ _ => obl rfl (yB rfl dR), ?_, fun _ _ _ _ _ _ => obl rfl (xl rfl dR), ?_, fun _ _ _ _ _ cV => obl rfl (zQ (parts' := [(0, Iv (e.typ)), (1, Iv (e.agg))]) (v := .agg #[Iv (e.typ), Iv (e.agg)]) (xF ⟨rfl, (cV 10 (by decide)), rfl, (cV 12 (by decide)), trivial⟩) yqf dR), fun _ _ _ _ _ _ => obl rfl (yU rfl dR), ?_, fun _ _ _ _ _ cW => obl rfl (zQ (parts' := [(0, .agg #[Iv (e.typ), Iv (e.agg)]), (1, Iv (e.field))]) (v := .agg #[Iv (e.typ), Iv (e.agg), Iv (e.field)]) (xF ⟨rfl, (cW 13 (by decide)), rfl, (cW 15 (by decide)), trivial⟩) yqf dR), ?_, ?_, ?_, ?_, trivial⟩ ?_
 intro jo vals w439 gW aK aL
 have bM : jo ∈ [0, 1, 2, 3] := gW
 simp only [List.mem_cons, List.not_mem_nil, or_false] at bM
 rcases bM with rfl | rfl | rfl | rfl
 have gX : Sep _ _ _ _ := aK
 exact obl rfl (lD l oR (aL 3 dc) (zd (gX.b2) rfl) dR)
 obtain ⟨j, y, gY⟩ := aK
 exact obl rfl (lD l oR (aL 3 dc) (zd (gY.b3) rfl) dR)
 obtain ⟨g, z, gZ⟩ := aK
 exact obl rfl (lD l oR (aL 3 dc) (zd (gZ.b3) rfl) dR)
 obtain ⟨j, g, y, z, ha⟩ := aK
 exact obl rfl (lD l oR (aL 3 dc) (zd (ha.b4) rfl) dR)
 intro jp vals w457 hb aM aN
 have bN : jp ∈ [0, 1, 2, 3] := hb
 simp only [List.mem_cons, List.not_mem_nil, or_false] at bN
 rcases bN with rfl | rfl | rfl | rfl
 have hc : Sep _ _ _ _ := aM
 exact obl rfl (lD (Iv (e.typ)) lT (aN 5 dc) (zd (hc.b1) rfl) dR)
 obtain ⟨j, y, he⟩ := aM
 exact obl rfl (lD (Iv (e.typ)) lT (aN 5 dc) (zd (he.b2) rfl) dR)
 obtain ⟨g, z, hf⟩ := aM
 exact obl rfl (lD (Iv (e.typ)) lT (aN 5 dc) (zd (hf.b2) rfl) dR)
 obtain ⟨j, g, y, z, hg⟩ := aM
 exact obl rfl (lD (Iv (e.typ)) lT (aN 5 dc) (zd (hg.b3) rfl) dR)
 intro jq vals w470 hh aO ae
 have bO : jq ∈ [0, 1, 2, 3] := hh
 simp only [List.mem_cons, List.not_mem_nil, or_false] at bO
 rcases bO with rfl | rfl | rfl | rfl
 have hS474 : Sep _ _ _ _ := aO
 refine obl rfl ?_
 have hi477 : e.typ.toNat < d.types.length := bo
 exact zq (k := 1) (i := e.typ) tT oT (ae 4 dc) K.sl (ae 6 dc) ⟨by omega, by omega⟩ dR
 obtain ⟨j, y, hS478⟩ := aO
 refine obl rfl ?_
 have hi481 : e.typ.toNat < d.types.length := bo
 exact zq (k := 1) (i := e.typ) tT oT (ae 4 dc) K.sl (ae 6 dc) ⟨by omega, by omega⟩ dR
 obtain ⟨g, z, hS482⟩ := aO
 refine obl rfl ?_
 have hi485 : e.typ.toNat < d.types.length := bo
 exact zq (k := 1) (i := e.typ) tT oT (ae 4 dc) K.sl (ae 6 dc) ⟨by omega, by omega⟩ dR
 obtain ⟨j, g, y, z, hS486⟩ := aO
 refine obl rfl ?_
 have hi489 : e.typ.toNat < d.types.length := bo
 exact zq (k := 1) (i := e.typ) tT oT (ae 4 dc) K.sl (ae 6 dc) ⟨by omega, by omega⟩ dR
 intro jr vals w491 hj aP aQ
 have bP : jr ∈ [0, 1, 2, 3] := hj
 simp only [List.mem_cons, List.not_mem_nil, or_false] at bP
 rcases bP with rfl | rfl | rfl | rfl
 have hk : Sep _ _ _ _ := aP
 refine obl rfl ?_
 have cX : e.typ.toNat < d.types.length := bo
 obtain ⟨dL, cM, hoke497⟩ := K.typD cX
 have hsm499 : ((d.types.getD e.typ.toNat default).fields).length * 48 ≤ 140737488355328 := cM.small
 have dM := hk.cells dL (K.foot (ne_of_lt cX))
 exact zg (k := 1) uT oT rfl (aQ 7 dc) dM dR
 obtain ⟨j, y, hl⟩ := aP
 refine obl rfl ?_
 have cY : e.typ.toNat < d.types.length := bo
 obtain ⟨dN, cN, hoke503⟩ := K.typD cY
 have hsm505 : ((d.types.getD e.typ.toNat default).fields).length * 48 ≤ 140737488355328 := cN.small
 have dO := hl.cells dN (K.foot (ne_of_lt cY))
 exact zg (k := 1) uT oT rfl (aQ 7 dc) dO dR
 obtain ⟨g, z, hm⟩ := aP
 refine obl rfl ?_
 have cZ : e.typ.toNat < d.types.length := bo
 obtain ⟨dP, cO, hoke509⟩ := K.typD cZ
 have hsm511 : ((d.types.getD e.typ.toNat default).fields).length * 48 ≤ 140737488355328 := cO.small
 have dQ := hm.cells dP (K.foot (ne_of_lt cZ))
 exact zg (k := 1) uT oT rfl (aQ 7 dc) dQ dR
 obtain ⟨j, g, y, z, hn⟩ := aP
 refine obl rfl ?_
 have da : e.typ.toNat < d.types.length := bo
 obtain ⟨dS, cP, hoke515⟩ := K.typD da
 have hsm517 : ((d.types.getD e.typ.toNat default).fields).length * 48 ≤ 140737488355328 := cP.small
 have dU := hn.cells dS (K.foot (ne_of_lt da))
 exact zg (k := 1) uT oT rfl (aQ 7 dc) dU dR
 intro js vals w525 ho ar au
 have bQ : js ∈ [0, 1, 2, 3, 7] := ho
 simp only [List.mem_cons, List.not_mem_nil, or_false] at bQ
 rcases bQ with rfl | rfl | rfl | rfl | rfl
 have hp : Sep _ _ _ _ := ar
 exact obl rfl (lD (Iv (e.typ)) lT (au 9 dc) (zd (hp.b1) rfl) dR)
 obtain ⟨j, y, hq⟩ := ar
 exact obl rfl (lD (Iv (e.typ)) lT (au 9 dc) (zd (hq.b2) rfl) dR)
 obtain ⟨g, z, hr⟩ := ar
 exact obl rfl (lD (Iv (e.typ)) lT (au 9 dc) (zd (hr.b2) rfl) dR)
 obtain ⟨j, g, y, z, hs⟩ := ar
 exact obl rfl (lD (Iv (e.typ)) lT (au 9 dc) (zd (hs.b3) rfl) dR)
 obtain ⟨j, g, y, z, ht⟩ := ar
 exact obl rfl (lD (Iv (e.typ)) lT (au 9 dc) (zd (ht.b3) rfl) dR)
 intro jt vals w545 hu av aw
 have bR : jt ∈ [0, 1, 2, 3, 7] := hu
 simp only [List.mem_cons, List.not_mem_nil, or_false] at bR
 rcases bR with rfl | rfl | rfl | rfl | rfl
 have hw : Sep _ _ _ _ := av
 exact obl rfl (lD (Iv (e.agg)) lT (aw 11 dc) (zd (hw.b1) rfl) dR)
 obtain ⟨j, y, hx⟩ := av
 exact obl rfl (lD (Iv (e.agg)) lT (aw 11 dc) (zd (hx.b2) rfl) dR)
 obtain ⟨g, z, hy⟩ := av
 exact obl rfl (lD (Iv (e.agg)) lT (aw 11 dc) (zd (hy.b2) rfl) dR)
 obtain ⟨j, g, y, z, hz⟩ := av
 exact obl rfl (lD (Iv (e.agg)) lT (aw 11 dc) (zd (hz.b3) rfl) dR)
 obtain ⟨j, g, y, z, hA⟩ := av
 exact obl rfl (lD (Iv (e.agg)) lT (aw 11 dc) (zd (hA.b3) rfl) dR)
 intro ju vals w572 hB ax ay
 have bS : ju ∈ [0, 1, 2, 3, 7] := hB
 simp only [List.mem_cons, List.not_mem_nil, or_false] at bS
 rcases bS with rfl | rfl | rfl | rfl | rfl
 have hC : Sep _ _ _ _ := ax
 exact obl rfl (lD (Iv (e.field)) lT (ay 14 dc) (zd (hC.b1) rfl) dR)
 obtain ⟨j, y, hD⟩ := ax
 exact obl rfl (lD (Iv (e.field)) lT (ay 14 dc) (zd (hD.b2) rfl) dR)
 obtain ⟨g, z, hE⟩ := ax
 exact obl rfl (lD (Iv (e.field)) lT (ay 14 dc) (zd (hE.b2) rfl) dR)
 obtain ⟨j, g, y, z, hF⟩ := ax
 exact obl rfl (lD (Iv (e.field)) lT (ay 14 dc) (zd (hF.b3) rfl) dR)
 obtain ⟨j, g, y, z, hG⟩ := ax
 exact obl rfl (lD (Iv (e.field)) lT (ay 14 dc) (zd (hG.b3) rfl) dR)
 intro jv vals w594 hH db hA595
 have bT : jv ∈ [0, 2] := hH
 simp only [List.mem_cons, List.not_mem_nil, or_false] at bT
 rcases bT with rfl | rfl
 have hI : Sep _ _ _ _ := db
 refine obl rfl ((zr vR ?_))
 intro w601 j hJ
 exact fun C Q D => ⟨(Exists.intro j (And.intro Q (hI.new hJ))), trivial⟩
 obtain ⟨g, z, hK⟩ := db
 refine obl rfl ((zr vR ?_))
 intro w606 j hL
 exact fun C Q D => ⟨(Exists.intro j (Exists.intro g (And.intro Q (And.intro ((D 18 dc).trans z) ((hK.new hL).mv1))))), trivial⟩
 intro jw vals w610 hM dd hA611
 have bU : jw ∈ [0, 1] := hM
 simp only [List.mem_cons, List.not_mem_nil, or_false] at bU
 rcases bU with rfl | rfl
 have hO : Sep _ _ _ _ := dd
 refine obl rfl ((zr wA ?_))
 intro w617 g hP
 exact fun C Q D => ⟨(Exists.intro g (And.intro Q (hO.new hP))), trivial⟩
 obtain ⟨j, y, hQ⟩ := dd
 refine obl rfl ((zr wA ?_))
 intro w622 g hR
 exact fun C Q D => ⟨(Exists.intro j (Exists.intro g (And.intro ((D 17 dc).trans y) (And.intro Q (hQ.new hR))))), trivial⟩
 intro jx vals w625 hS hU hV
 have bV : jx ∈ [3] := hS
 simp only [List.mem_cons, List.not_mem_nil, or_false] at bV
 subst bV
 obtain ⟨j, g, y, z, bA⟩ := hU
 refine obl rfl ?_
 have de : e.typ.toNat < d.types.length := bo
 obtain ⟨dV, bc, hoke633⟩ := K.typD de
 have hsm635 : ((d.types.getD e.typ.toNat default).fields).length * 48 ≤ 140737488355328 := bc.small
 have hcw636 := bA.cells dV (K.foot (ne_of_lt de))
 refine (zp (v := .agg jO.toArray) (c' := jO.toArray) oT y (hV 8 dc) (bA.b1) (zW ⟨bc.sl.one, trivial⟩) yqc rfl ?_)
 intro w631 hW
 exact fun C Q D => ⟨(Exists.intro j (Exists.intro g (And.intro ((D 17 dc).trans y) (And.intro ((D 18 dc).trans z) (bA.pt1 hW))))), trivial⟩
 intro jy vals w639 hX hY hZ
 have bW : jy ∈ [7] := hX
 simp only [List.mem_cons, List.not_mem_nil, or_false] at bW
 subst bW
 obtain ⟨j, g, y, z, df⟩ := hY
 refine obl rfl ((zp (v := .agg #[Iv (e.typ), Iv (e.agg), Iv (e.field)]) (c' := #[Iv (e.typ), Iv (e.agg), Iv (e.field)]) wR z (hZ 16 dc) (df.b0) (zW ⟨rfl, rfl, rfl, trivial⟩) yqc rfl ?_))
 intro w645 ia
 exact fun C Q D => ⟨(Exists.intro j (Exists.intro g (And.intro ((D 17 dc).trans y) (And.intro ((D 18 dc).trans z) (df.pt0 ia))))), trivial⟩
 intro vals w648 ib hA650
 obtain ⟨j, g, y, z, dg⟩ := ib
 refine zZ (kv := [(0, Ix b 0), (1, .agg (e.cells ve0).toArray), (3, Ix s 0), (4, .bool false), (5, Ix I 0), (25, .bool false), (6, Ix j 0), (7, Ix g 0)]) ⟨rfl, rfl, rfl, rfl, rfl, rfl, (by exact y), (by exact z), trivial⟩ (fun ρw648 => (zb (za (za ?_))))
 have dh : e.typ.toNat < d.types.length := bo
 obtain ⟨dW, V, aG⟩ := K.typD dh
 have hsm654 : ((d.types.getD e.typ.toNat default).fields).length * 48 ≤ 140737488355328 := V.small
 have hcw655 := dg.cells dW (K.foot (ne_of_lt dh))
 obtain ⟨m, dX, ic⟩ := (dg.mv6).mapoTake (Iz) bi
 let jX := RwV m (yf bi M)
 have di : Sep _ _ (jX :: _) _ := UY (ic.mv1) dX
 have dj := di.r0
 have hr662s : _ * 96 ≤ _ := dj.2
 have hdl9 := Ke bi M
 refine WD4 (WF [fun vals B => Sep N p (jX :: (Md1 R M e m) :: (BkP g e) :: (BkT j d e p l) :: jR :: bG :: (BkV b l O T P R) :: jS :: (RwI ve0 e.deps) :: aj) B]) (AF [Vl 0 (Ix b 0), Vl 1 (Ix b 0), Vl 2 (Ix b 4), Vl 3 (.map (some R)), Vl 4 (.agg #[Iv (e.typ), Iv (e.agg), Iv (e.field)]), Vl 5 (m), Vl 6 (Iw ((yf bi M).length)), Vl 7 (Iv 0)]) [[], [0], [0, 1], [0, 1, 2], [], (rg 5), (rg 6), []] [] [(0, 0), (0, 0), (0, 0), (0, 0), (0, 0), (0, 0), (0, 0), (0, 0)] di ⟨fun _ _ _ _ _ _ _ => obl rfl (mV (Ix b 0) dR), fun _ _ _ _ _ _ id => obl rfl (zE (b := b) (o := 0) (id 0 dc) dR), fun _ _ _ _ _ _ ie => obl rfl (Us (ie 1 dc) dR), ob1 0 fun _ _ (ig : Sep _ _ _ _) ih => obl rfl (lD (.map (some R)) uY (ih 2 dc) (zd (ig.b6) rfl) dR), ob1 0 fun _ _ (ii : Sep _ _ _ _) _ => obl rfl (zg (k := 3) vY wR rfl rfl (CellsAt.all (ii.b2)) dR), ob1 0 fun _ _ (ij : Sep _ _ _ _) dk => obl rfl (VP ij (i := 1) rfl K3 lB mB (dk 3 dc) (dk 4 dc) dR), ob1 0 fun _ _ _ ik => obl rfl (zA (n := (yf bi M).length) pR (ik 5 dc) dj.1 dR), fun _ _ _ _ _ _ _ => obl rfl (mV (Iv 0) dR), trivial⟩ ?_
 intro vals Y il bB
 have im : Sep _ _ _ _ := il
 have jz := bB 5 dc
 have jA := bB 6 dc
 have jB := bB 7 dc
 refine zZ (kv := [(0, Ix b 0), (1, .agg (e.cells ve0).toArray), (3, Ix s 0), (4, .bool false), (5, Ix I 0), (25, .bool false), (6, Ix j 0), (7, Ix g 0), (49, m), (50, Iw ((yf bi M).length)), (51, Iv 0)]) ⟨rfl, rfl, rfl, rfl, rfl, rfl, rfl, rfl, (by exact jz), (by exact jA), (by exact jB), trivial⟩ (fun ρw779 => (zb (zn ?_)))
 obtain ⟨bd, io, az, ip, dl⟩ := im.lend
 have aA := RowE.rd io
 have hrd792s : _ * 96 ≤ _ := aA.small
 have dm := ip.s8_bcdefhag
 generalize dp : ((Md1 R M e m) :: (yO xL E1 P (zh d M)) :: aj) = bC at dm
 refine zX (fun mq σ B => ∃ (k : Nat) (ρ : Env), mq = (yf (e.typ, e.agg, e.field) M).length - k ∧ σ = yb ρ [(0, Ix b 0), (3, Ix s 0), (5, Ix I 0), (6, Ix j 0), (7, Ix g 0), (49, m), (50, Iw ((yf (e.typ, e.agg, e.field) M).length)), (51, Iw k)] ∧ (k ≤ (yf (e.typ, e.agg, e.field) M).length) ∧ (∀ i, i < k → yA ((d.types.getD e.typ.toNat default).fields.getD e.field.toNat default) ((yf (e.typ, e.agg, e.field) M).getD i default) e = false) ∧ Sep bd Y ((BkP g e) :: (BkT j d e p l) :: (Blk I #[Iv 0, Iv 0] 57) :: (Blk s (e.cells ve0).toArray 59) :: (BkV b l O T P R) :: (RwI ve0 e.deps) :: bC) B) ⟨0, _, rfl, sSf, Nat.zero_le _, (fun i h => absurd h (Nat.not_lt_zero i)), dm⟩ ?_
 rintro m797 σ798 jC ⟨k, ρl1, rfl, rfl, hkk, hno, aB⟩
 let jP := zy Y (sb m) (so m + k * 10 + 3)
 let jQ := ((yf bi M).getD k default).cells jP
 refine za (R0 fun _ => st (zD (k := .i64) (a := ((k : Nat) : Int)) (b := (((yf bi M).length : Nat) : Int)) rfl rfl (zb (za ?_))))
 cases aR : decide (((k : Nat) : Int) < (((yf (e.typ, e.agg, e.field) M).length : Nat) : Int))
 have aR := fD aR
 try simp +zetaDelta only at aB
 rw [← dp] at aB
 have iq := dl _ _ aB
 have hfree := Ki hfz (fun i hi => hno i om)
 refine zi rfl (zU (zI (za ?_)))
 obtain ⟨vs803, dY, ir⟩ := (iq.mv8).mapoTake Vr (e.typ, e.agg)
 obtain ⟨H, rfl, it⟩ := Wb (ir.mv1) dY
 let jV := Ms1 P d M (e.typ, e.agg) H
 have bX : Sep N p ((RwC H (stL d (e.typ, e.agg) M)) :: jV :: jX :: (BkP g e) :: (BkT j d e p l) :: jR :: bG :: (BkV b l O T P R) :: (RwI ve0 e.deps) :: (Md1 R M e m) :: aj) jC := it
 have dq := bX.r0
 have hr809s : _ * 32 ≤ _ := dq.2
 have dr := bX.s10_abdeghjcif
 generalize ds : ((Md1 R M e m) :: (RwV m (yf (e.typ, e.agg, e.field) M)) :: (RwI ve0 e.deps) :: (Blk I #[Iv 0, Iv 0] 57) :: aj) = bD at dr
 have hve9 := YX (e.typ, e.agg) M
 refine WD4 ((fun TT J => WF [fun vals B => Sep N p (J :: TT) B, fun vals B => ∃ (u : Nat), (vals 10 = (Ix u 0 : Value)) ∧ Sep N p ((Blk u #[Iv 0, (Iz)] 68) :: J :: TT) B, fun vals B => ∃ (u : Nat), (vals 10 = (Ix u 0 : Value)) ∧ Sep N p ((BkS u M (e.typ, e.agg) H) :: J :: TT) B]) (jV :: (BkP g e) :: (BkT j d e p l) :: bG :: (BkV b l O T P R) :: bD) (RwC H (stL d (e.typ, e.agg) M))) (AF [Vl 0 (Ix b 0), Vl 1 (Ix b 0), Vl 2 (Ix b 3), Vl 3 (.map (some P)), Vl 4 (Ix g 0), Vl 5 (.agg #[Iv (e.typ), Iv (e.agg)]), Vl 6 (.tuple #[.agg #[Iw (yd (e.typ, e.agg) M), H], .bool (((zh d M) (e.typ, e.agg)).isSome)]), Vl 7 (.tuple #[.agg #[Iw (yd (e.typ, e.agg) M), H], .bool (((zh d M) (e.typ, e.agg)).isSome)]), Vl 8 (.agg #[Iw (yd (e.typ, e.agg) M), H]), Vl 9 (.bool (((zh d M) (e.typ, e.agg)).isSome)), fun _ => True, fun _ => True, Vl 12 (.bool (((zh d M) (e.typ, e.agg)).isSome))]) [[], [0], [0, 1], [0, 1, 2], [], [4], (rg 6), (rg 7), (rg 8), (rg 8), [], [0, 1, 2, 3, 4, 5, 6, 7, 8, 10], (rg 12)] [10, 11] [(0, 1), (0, 1), (0, 1), (0, 1), (0, 1), (0, 1), (0, 1), (0, 1), (0, 1), (0, 2), (0, 0), (1, 1), (2, 2)] dr ⟨fun _ _ _ _ _ _ _ => obl rfl (mV (Ix b 0) dR), fun _ _ _ _ _ _ iu => obl rfl (zE (b := b) (o := 0) (iu 0 dc) dR), fun _ _ _ _ _ _ iv => obl rfl (WI (iv 1 dc) dR), ?_, fun _ _ _ _ _ _ _ => obl rfl (Ue rfl dR), ?_, ?_, fun _ _ _ _ _ _ iw => obl rfl (zP (v := .tuple #[.agg #[Iw (yd (e.typ, e.agg) M), H], .bool (((zh d M) (e.typ, e.agg)).isSome)]) (iw 6 dc) dR), fun _ _ _ _ _ _ ix => obl rfl (zt (vs := [.agg #[Iw (yd (e.typ, e.agg) M), H], .bool (((zh d M) (e.typ, e.agg)).isSome)]) (i := 0) (v := .agg #[Iw (yd (e.typ, e.agg) M), H]) (ix 7 dc) rfl dR), fun _ _ _ _ _ _ iy => obl rfl (zt (vs := [.agg #[Iw (yd (e.typ, e.agg) M), H], .bool (((zh d M) (e.typ, e.agg)).isSome)]) (i := 1) (v := .bool (((zh d M) (e.typ, e.agg)).isSome)) (iy 7 dc) rfl dR), ?_, ?_, fun _ _ _ _ _ _ iz => obl rfl (ym (v := .bool (((zh d M) (e.typ, e.agg)).isSome)) (iz 9 dc) dR), trivial⟩ ?_
 refine fun bE _ _ jD jE dt du => ?_
 have hkk : bE = 0 ∨ bE = 1 := by have h1 : 0 ≤ bE := jD; have h2 : bE ≤ 1 := jE; omega
 rcases hkk with rfl | rfl
 have iA : Sep _ _ _ _ := dt
 exact obl rfl (lD (.map (some P)) sR (du 2 dc) (zd (iA.b5) rfl) dR)
 obtain ⟨u, ah, iB⟩ := dt
 exact obl rfl (lD (.map (some P)) sR (du 2 dc) (zd (iB.b6) rfl) dR)
 refine fun bH _ _ jF jG dv dw => ?_
 have hkk : bH = 0 ∨ bH = 1 := by have h1 : 0 ≤ bH := jF; have h2 : bH ≤ 1 := jG; omega
 rcases hkk with rfl | rfl
 have iC : Sep _ _ _ _ := dv
 exact obl rfl (zg (k := 2) (cs := [Iv (e.typ), Iv (e.agg)]) lY mY rfl (dw 4 dc) (CellsAt.sub (CellsAt.all (iC.b2)) 0 (cs2 := [Iv (e.typ), Iv (e.agg)]) rfl) dR)
 obtain ⟨u, ah, iD⟩ := dv
 exact obl rfl (zg (k := 2) (cs := [Iv (e.typ), Iv (e.agg)]) lY mY rfl (dw 4 dc) (CellsAt.sub (CellsAt.all (iD.b3)) 0 (cs2 := [Iv (e.typ), Iv (e.agg)]) rfl) dR)
 refine fun bI _ _ jH jI dx aT => ?_
 have hkk : bI = 0 ∨ bI = 1 := by have h1 : 0 ≤ bI := jH; have h2 : bI ≤ 1 := jI; omega
 rcases hkk with rfl | rfl
 have iE : Sep _ _ _ _ := dx
 exact obl rfl (Zz iE (i := 1) rfl K2 nY lR (aT 3 dc) (aT 5 dc) dR)
 obtain ⟨u, ah, iF⟩ := dx
 exact obl rfl (Zz iF (i := 2) rfl K2 nY lR (aT 3 dc) (aT 5 dc) dR)
 refine ob1 0 fun _ _ (iG : Sep _ _ _ _) _ => (obl rfl ((zr lR ?_)))
 intro w894 u iH
 exact fun C Q D => ⟨(Exists.intro u (And.intro Q (iG.new iH))), trivial⟩
 refine ob1 1 fun _ _ iI iJ => ?_
 obtain ⟨u, ah, dy⟩ := iI
 refine obl rfl ((zp (v := .agg #[Iw (yd (e.typ, e.agg) M), H]) (c' := #[Iw (yd (e.typ, e.agg) M), H]) sT ah (iJ 8 dc) (dy.b0) (zW ⟨rfl, dq.1.one, trivial⟩) yqc rfl ?_))
 intro w905 iK
 exact fun C Q D => ⟨(Exists.intro u (And.intro ((D 10 dc).trans ah) (dy.pt0 iK))), trivial⟩
 intro vals w1001 dZ ea
 obtain ⟨u, ah, be⟩ := dZ
 have iL := ea 12 dc
 refine zZ (kv := [(0, Ix b 0), (3, Ix s 0), (5, Ix I 0), (6, Ix j 0), (7, Ix g 0), (49, m), (50, Iw ((yf bi M).length)), (51, Iw k), (52, .bool false), (10, Ix u 0), (11, .bool (((zh d M) (e.typ, e.agg)).isSome))]) ⟨rfl, rfl, rfl, rfl, rfl, rfl, rfl, rfl, rfl, (by exact ah), (by exact iL), trivial⟩ (fun ρw1001 => (zb (za (za (R0 fun _ => st (mV (.bool (((zh d M) (e.typ, e.agg)).isSome)) (st (yc (a := ((zh d M) (e.typ, e.agg)).isSome) rfl (zb ?_)))))))))
 refine Um (fun σ B => ∃ (U : Value) (ρ : Env), σ = yb ρ [(0, Ix b 0), (3, Ix s 0), (5, Ix I 0), (6, Ix j 0), (7, Ix g 0), (10, Ix u 0)] ∧ (U = H ∨ yd (e.typ, e.agg) M = 0) ∧ Sep N p ((BkS u M (e.typ, e.agg) U) :: (RwC U (clL d M e)) :: jV :: (BkP g e) :: (BkT j d e p l) :: bG :: (BkV b l O T P R) :: bD) B) ?_ ?_
 cases aC : !(((zh d M) (e.typ, e.agg)).isSome)
 try simp only [zf] at aC
 refine zi rfl (zk ?_)
 have bf := be.mv1
 try simp +zetaDelta only at bf
 rw [show stL d (e.typ, e.agg) M = (zT d (e.typ, e.agg) M) from if_neg (WY aC)] at bf
 exact ⟨rfl, H, _, xv ⟨(show _ = (Ix b 0 : Value) from rfl), (show _ = (Ix s 0 : Value) from rfl), (show _ = (Ix I 0 : Value) from rfl), (show _ = (Ix j 0 : Value) from rfl), (show _ = (Ix g 0 : Value) from rfl), (show _ = (Ix u 0 : Value) from rfl), trivial⟩, (.inl rfl), (bf.mv1)⟩
 try simp only [zf] at aC
 refine zj rfl (R0 fun _ => st (zg (k := 1) uT oT rfl rfl (CellsAt.all (be.b4)) (st (cL Tryd.call48 (D_New (t := (d.types.getD e.typ.toNat default)) V aG be) ?_))))
 rintro bJ w1010 ⟨_, rfl, bg⟩
 have bY := bg.r0
 have hr1012s : _ * 32 ≤ _ := bY.2
 refine st (yw rfl (stn (yp (v := bJ) (c := [Iw (yd (e.typ, e.agg) M), H]) (c' := [Iw (yd (e.typ, e.agg) M), bJ]) rA rfl rfl (bg.b1) bY.1.one rfl rfl ?_)))
 intro w1013 eb
 have bh := bg.pt1 eb
 refine zb ?_
 have ji : yd (e.typ, e.agg) M = 0 := Vx aC
 try simp +zetaDelta only at bh
 rw [show (List.replicate (d.types.getD e.typ.toNat default).fields.length (⟨0, []⟩ : Cel)) = (zT d (e.typ, e.agg) M) from (Kg (d := d) ji).symm] at bh
 exact ⟨rfl, bJ, _, xv ⟨(show _ = (Ix b 0 : Value) from rfl), (show _ = (Ix s 0 : Value) from rfl), (show _ = (Ix I 0 : Value) from rfl), (show _ = (Ix j 0 : Value) from rfl), (show _ = (Ix g 0 : Value) from rfl), (show _ = (Ix u 0 : Value) from rfl), trivial⟩, (.inr ji), (bh.s8_badefgh)⟩
 rintro _ w1017 ⟨U, ρj1, rfl, jJ, ac⟩
 let jY := RwC U (clL d M e)
 let jT := BkS u M (e.typ, e.agg) U
 have ec := ac.r1
 have hr1019s : _ * 32 ≤ _ := ec.2
 refine za (za (R0 fun _ => st (zg (k := 1) uT oT rfl rfl (CellsAt.all (ac.b4)) (st (yw rfl (st (lD U rT rfl (zd (ac.b0) rfl) (st (yU rfl (st (lD (Iv (e.field)) lT rfl (zd (ac.b5) rfl) (st (xh rfl (st (lD (Iv (e.op)) lT rfl (zd (ac.b5) rfl) (st (xg rfl (st (lD (Iv (e.arg)) lT rfl (zd (ac.b5) rfl) ?_)))))))))))))))))))
 obtain ⟨G1021, ed, ee, ef, eg⟩ := (ac.mv1).lend
 have bt := RowE.rd ed
 have hrd1027s : _ * 32 ≤ _ := bt.small
 refine st (cL Tryd.call16 (D_May (t := (d.types.getD e.typ.toNat default)) (c := (zT d (e.typ, e.agg) M)) (vc := U) (f := e.field) (op := e.op) (arg := e.arg) (RdS.base V ee) aG bt oe.field oe.op oe.arg ef ((hft.ask (hd.typ _ om) (hinv e.typ e.agg dJ dK)))) ?_)
 rintro _ w1028 ⟨rfl, eh⟩
 have aD := eg _ _ eh
 refine st (yh (k := .i64) (a := yY (d.types.getD e.typ.toNat default) (zT d (e.typ, e.agg) M) e.field e.op e.arg) (b := 0) rfl rfl (zb ?_))
 cases af : !decide ((yY (d.types.getD e.typ.toNat default) (zT d (e.typ, e.agg) M) e.field e.op e.arg) = 0)
 have af := zB af
 have hT : zJ d M e = (false, 0, 0) := hfree.trans (if_neg (not_not_intro af))
 refine zi rfl (zk (za ?_))
 refine WD4 ((fun TT J ab ad => WF [fun vals B => Sep N p (J :: ab :: ad :: TT) B, fun vals B => ∃ (A : Value), (vals 18 = (A : Value)) ∧ Sep N p (J :: (RwC A (doL (d.types.getD e.typ.toNat default) (clL d M e) e.field e.op e.arg)) :: ab :: ad :: TT) B, fun vals B => ∃ (A : Value), (vals 18 = (A : Value)) ∧ Sep N p (hv :: J :: ab :: TT) B]) ((BkP g e) :: (BkT j d e p l) :: bG :: (BkV b l O T P R) :: bD) jY jT jV) (AF [Vl 0 (Ix b 0), Vl 1 (Ix b 0), Vl 2 (Ix b 3), Vl 3 (.map (some P)), Vl 4 (Ix g 0), Vl 5 (.agg #[Iv (e.typ), Iv (e.agg)]), Vl 6 (Ix u 0), Vl 7 (Iw (yd (e.typ, e.agg) M)), Vl 8 (Iw (yd (e.typ, e.agg) M + 1)), Vl 9 (.agg jO.toArray), Vl 10 (Ix u 1), Vl 11 (U), Vl 12 (Ix s 6), Vl 13 (Iv (e.field)), Vl 14 (Ix s 7), Vl 15 (Iv (e.op)), Vl 16 (Ix s 8), Vl 17 (Iv (e.arg)), fun _ => True, fun vals => ∀ (A : Value), vals 18 = (A : Value) → vals 19 = (.agg #[Iw (yd (e.typ, e.agg) M + 1), A] : Value), fun _ => True]) [[], [0], [0, 1], [0, 1, 2], [], [4], [], [6], [6, 7], [], [], [10], [], [12], [], [14], [], [16], [9, 10, 11, 12, 13, 14, 15, 16, 17], [6, 7, 8, 9, 10, 11, 12, 13, 14, 15, 16, 17, 18], (rg 20)] [18, 20] [(0, 1), (0, 1), (0, 1), (0, 1), (0, 1), (0, 1), (0, 1), (0, 1), (0, 1), (0, 0), (0, 0), (0, 0), (0, 0), (0, 0), (0, 0), (0, 0), (0, 0), (0, 0), (0, 0), (1, 1), (1, 1)] aD ⟨fun _ _ _ _ _ _ _ => obl rfl (mV (Ix b 0) dR), fun _ _ _ _ _ _ ei => obl rfl (zE (b := b) (o := 0) (ei 0 dc) dR), fun _ _ _ _ _ _ ej => obl rfl (WI (ej 1 dc) dR), ?_, fun _ _ _ _ _ _ _ => obl rfl (Ue rfl dR), ?_, fun _ _ _ _ _ _ _ => obl rfl (Zm rfl dR), ?_, ?_, ob1 0 fun _ _ (ek : Sep _ _ _ _) _ => obl rfl (zg (k := 1) uT oT rfl rfl (CellsAt.all (ek.b4)) dR), fun _ _ _ _ _ _ _ => obl rfl (yw rfl dR), ob1 0 fun _ _ (el : Sep _ _ _ _) em => obl rfl (lD U rT (em 10 dc) (zd (el.b1) rfl) dR), fun _ _ _ _ _ _ _ => obl rfl (yU rfl dR), ob1 0 fun _ _ (en : Sep _ _ _ _) eo => obl rfl (lD (Iv (e.field)) lT (eo 12 dc) (zd (en.b5) rfl) dR), fun _ _ _ _ _ _ _ => obl rfl (xh rfl dR), ob1 0 fun _ _ (er : Sep _ _ _ _) es => obl rfl (lD (Iv (e.op)) lT (es 14 dc) (zd (er.b5) rfl) dR), fun _ _ _ _ _ _ _ => obl rfl (xg rfl dR), ob1 0 fun _ _ (et : Sep _ _ _ _) eu => obl rfl (lD (Iv (e.arg)) lT (eu 16 dc) (zd (et.b5) rfl) dR), ?_, ?_, ?_, trivial⟩ ?_ (hlocA := yT ⟨dA, dA, dA, dA, dA, dA, dA, dA, dA, dA, dA, dA, dA, dA, dA, dA, dA, dA, dT, fun vals C Q h => fun A ai => (Q 19 (.inl rfl)).trans (h A ((Q 18 (.inr dc)).symm.trans ai)), dT, trivial⟩)
 refine fun aU _ _ iM iN bZ ca => ?_
 have hkk : aU = 0 ∨ aU = 1 := by have h1 : 0 ≤ aU := iM; have h2 : aU ≤ 1 := iN; omega
 rcases hkk with rfl | rfl
 have ew : Sep _ _ _ _ := bZ
 exact obl rfl (lD (.map (some P)) sR (ca 2 dc) (zd (ew.b6) rfl) dR)
 obtain ⟨A, Z, ex⟩ := bZ
 exact obl rfl (lD (.map (some P)) sR (ca 2 dc) (zd (ex.b7) rfl) dR)
 refine fun aV _ _ iO iP cb cc => ?_
 have hkk : aV = 0 ∨ aV = 1 := by have h1 : 0 ≤ aV := iO; have h2 : aV ≤ 1 := iP; omega
 rcases hkk with rfl | rfl
 have ey : Sep _ _ _ _ := cb
 exact obl rfl (zg (k := 2) (cs := [Iv (e.typ), Iv (e.agg)]) lY mY rfl (cc 4 dc) (CellsAt.sub (CellsAt.all (ey.b3)) 0 (cs2 := [Iv (e.typ), Iv (e.agg)]) rfl) dR)
 obtain ⟨A, Z, ez⟩ := cb
 exact obl rfl (zg (k := 2) (cs := [Iv (e.typ), Iv (e.agg)]) lY mY rfl (cc 4 dc) (CellsAt.sub (CellsAt.all (ez.b4)) 0 (cs2 := [Iv (e.typ), Iv (e.agg)]) rfl) dR)
 refine fun aW _ _ iQ iR cd ce => ?_
 have hkk : aW = 0 ∨ aW = 1 := by have h1 : 0 ≤ aW := iQ; have h2 : aW ≤ 1 := iR; omega
 rcases hkk with rfl | rfl
 have eA : Sep _ _ _ _ := cd
 exact obl rfl (lD (Iw (yd (e.typ, e.agg) M)) lT (ce 6 dc) (zd (eA.b1) rfl) dR)
 obtain ⟨A, Z, eB⟩ := cd
 exact obl rfl (lD (Iw (yd (e.typ, e.agg) M)) lT (ce 6 dc) (zd (eB.b2) rfl) dR)
 refine fun aX _ _ iS iT cf cg => ?_
 have hkk : aX = 0 ∨ aX = 1 := by have h1 : 0 ≤ aX := iS; have h2 : aX ≤ 1 := iT; omega
 rcases hkk with rfl | rfl
 have hS1278 : Sep _ _ _ _ := cf
 refine obl rfl ?_
 have eC : InR ((yd (e.typ, e.agg) M + 1 : Nat) : Int) := bo
 exact zH (r := ((yd (e.typ, e.agg) M + 1 : Nat) : Int)) (k := .i64) (a := ((yd (e.typ, e.agg) M : Nat) : Int)) (b := 1) (cg 7 (by decide)) rfl (by rw [show (((yd (e.typ, e.agg) M : Nat) : Int) + 1 : Int) = ((yd (e.typ, e.agg) M + 1 : Nat) : Int) from bo]; exact zz eC) dR
 obtain ⟨A, Z, hS1281⟩ := cf
 refine obl rfl ?_
 have eD : InR ((yd (e.typ, e.agg) M + 1 : Nat) : Int) := bo
 exact zH (r := ((yd (e.typ, e.agg) M + 1 : Nat) : Int)) (k := .i64) (a := ((yd (e.typ, e.agg) M : Nat) : Int)) (b := 1) (cg 7 (by decide)) rfl (by rw [show (((yd (e.typ, e.agg) M : Nat) : Int) + 1 : Int) = ((yd (e.typ, e.agg) M + 1 : Nat) : Int) from bo]; exact zz eD) dR
 refine ob1 0 fun vals _ (eE : Sep _ _ _ _) ak => (obl rfl ?_)
 obtain ⟨G1172, eF, eG, eH, eI⟩ := eE.lend
 have bu := RowE.rd eF
 have hrd1178s : _ * 32 ≤ _ := bu.small
 refine (zV (f := 17) (vals := [.agg ((d.types.getD e.typ.toNat default).cells (zy p (sb l) (so l + e.typ.toNat * 1 + 0))).toArray, U, Iv (e.field), Iv (e.op), Iv (e.arg)]) (cap := []) rfl (yH ⟨(ak 9 dc), (ak 11 dc), (ak 13 dc), (ak 15 dc), (ak 17 dc), trivial⟩) Tryd.call17 (D_Do (t := (d.types.getD e.typ.toNat default)) (c := (zT d (e.typ, e.agg) M)) (vc := U) (f := e.field) (op := e.op) (arg := e.arg) (RdS.base V eG) aG bu oe.field oe.op oe.arg eH ((hft.ask (hd.typ _ om) (hinv e.typ e.agg dJ dK))) ((fun _ => QQ (hinv e.typ e.agg dJ dK) hfl hfh))) ?_)
 rintro A w1180 ⟨_, rfl, ch⟩
 have eJ := ch.r0
 have hr1182s : _ * 32 ≤ _ := eJ.2
 have eK := eI _ _ ch
 exact fun C Q D => ⟨(Exists.intro A (And.intro Q eK)), trivial⟩
 refine ob1 1 fun _ _ eL eM => ?_
 obtain ⟨A, Z, eN⟩ := eL
 refine obl rfl ?_
 have ci := eN.r1
 have hr1356s : _ * 32 ≤ _ := ci.2
 refine zQ (parts' := [(0, Iw (yd (e.typ, e.agg) M + 1)), (1, A)]) (v := .agg #[Iw (yd (e.typ, e.agg) M + 1), A]) (xF ⟨rfl, (eM 8 (by decide)), rfl, Z, trivial⟩) (by obtain ⟨_, _, eO, _⟩ := ci.1; rw [show A = Value.slice _ _ _ from eO]; simp [Instr.build, Instr.fill, Ev.cells, go_sem, Mv.cells, Fld.cells, Typ.cells, Prj.cells, Dcl.cells, Cel.cells, AskR.cells, Ask.cells, CelS.cells, Ev.cells, Ent.cells, Sta.cells]) (fun C Q D => ⟨rfl, ?_⟩)
 intro v1179q ai
 rw [D 18 (by decide)] at ai; cases Z.symm.trans ai
 exact Q
 refine ob1 1 fun vals _ eP bj => ?_
 obtain ⟨A, Z, eQ⟩ := eP
 have iU : vals 19 = (.agg #[Iw (yd (e.typ, e.agg) M + 1), A] : Value) := bj 19 dc A Z
 refine obl rfl ?_
 have eR : Sep _ _ ((E1 (.agg #[Iw (yd (e.typ, e.agg) M + 1), A]) (yd (e.typ, e.agg) M + 1, (doL (d.types.getD e.typ.toNat default) (clL d M e) e.field e.op e.arg))) :: _) _ := UQ (n := yd (e.typ, e.agg) M + 1) (eQ.mv1)
 refine (XT (eR.mv3) K2 nY (bj 3 dc) (bj 5 dc) iU ?_)
 intro iV eS
 have dB : Sep N p (hv :: jY :: jT :: (BkP g e) :: (BkT j d e p l) :: bG :: (BkV b l O T P R) :: bD) iV := eS
 exact fun C Q D => ⟨(Exists.intro A (And.intro ((D 18 dc).trans Z) dB)), trivial⟩
 intro vals w1357 eT hA1359
 obtain ⟨A, Z, bk⟩ := eT
 refine zZ (kv := [(0, Ix b 0), (3, Ix s 0), (5, Ix I 0), (6, Ix j 0), (7, Ix g 0), (10, Ix u 0), (82, .agg jO.toArray), (83, Ix u 1), (84, U), (85, Ix s 6), (86, Iv (e.field)), (87, Ix s 7), (88, Iv (e.op)), (89, Ix s 8), (90, Iv (e.arg)), (91, Iv (yY (d.types.getD e.typ.toNat default) (zT d (e.typ, e.agg) M) e.field e.op e.arg)), (92, .bool false)]) sEv (fun ρw1357 => (zb (za ?_)))
 try simp +zetaDelta only at bk
 rw [← ds] at bk
 refine WD4 ((fun TT J ab ad aH aI cj ck jj eU eV => WF [fun vals B => Sep N p (J :: ab :: ad :: aH :: aI :: cj :: ck :: jj :: eU :: eV :: TT) B, fun vals B => ∃ (F : Nat), (vals 6 = ((Iy F 1 1) : Value)) ∧ Sep N p ((Blk F (e.cells ve0).toArray 59) :: J :: ab :: ad :: aH :: aI :: cj :: ck :: jj :: eU :: eV :: TT) B, fun vals B => ∃ (F : Nat) (q : Int), (vals 6 = ((Iy F 1 1) : Value)) ∧ (vals 7 = (.tuple #[m, Iv q] : Value)) ∧ Sep N p ((Wi xG E2 R (yt M) bi q) :: (Blk F (e.cells ve0).toArray 59) :: J :: ab :: ad :: aH :: aI :: cj :: ck :: eU :: eV :: TT) B, fun vals B => ∃ (F : Nat) (q : Int) (aa : Value), (vals 6 = ((Iy F 1 1) : Value)) ∧ (vals 7 = (.tuple #[m, Iv q] : Value)) ∧ (vals 9 = (aa : Value)) ∧ Sep N p ((RwV aa ((yf bi M) ++ [e])) :: (Wi xG E2 R (yt M) bi q) :: J :: ab :: ad :: aH :: aI :: cj :: ck :: TT) B, fun vals B => ∃ (F : Nat) (q : Int) (aa : Value), (vals 6 = ((Iy F 1 1) : Value)) ∧ (vals 7 = (.tuple #[m, Iv q] : Value)) ∧ (vals 9 = (aa : Value)) ∧ Sep N p ((yO xG E2 R (ZW (yt M) bi ((yf bi M) ++ [e]))) :: J :: ab :: ad :: aH :: aI :: cj :: ck :: TT) B]) (jR :: aj) hv jY jT (BkP g e) (BkT j d e p l) bG (BkV b l O T P R) (Md1 R M e m) jX (RwI ve0 e.deps)) (AF [Vl 0 (Ix b 0), Vl 1 (Ix b 0), Vl 2 (Ix b 4), Vl 3 (.map (some R)), Vl 4 (.agg #[Iv (e.typ), Iv (e.agg), Iv (e.field)]), Vl 5 (.agg (e.cells ve0).toArray), fun _ => True, fun _ => True, Vl 8 (m), fun _ => True, fun vals => ∀ (q : Int), vals 7 = (.tuple #[m, Iv q] : Value) → vals 10 = (Iv q : Value), fun _ => True]) [[], [0], [0, 1], [0, 1, 2], [], [], [5], (rg 7), (rg 8), (rg 9), (rg 8), (rg 11)] [6, 7, 9, 11] [(0, 1), (0, 1), (0, 1), (0, 1), (0, 1), (0, 0), (0, 0), (1, 1), (2, 2), (2, 2), (2, 3), (3, 3)] bk ⟨fun _ _ _ _ _ _ _ => obl rfl (mV (Ix b 0) dR), fun _ _ _ _ _ _ eW => obl rfl (zE (b := b) (o := 0) (eW 0 dc) dR), fun _ _ _ _ _ _ eX => obl rfl (Us (eX 1 dc) dR), ?_, ?_, ob1 0 fun _ _ (eY : Sep _ _ _ _) _ => obl rfl (zg (k := 10) pT mT rfl rfl (CellsAt.all (eY.b5)) dR), ?_, ?_, ?_, ?_, ?_, ?_, trivial⟩ ?_ (hlocA := yT ⟨dA, dA, dA, dA, dA, dA, dT, dT, dA, dT, fun vals C Q h => fun q ai => (Q 10 (.inl rfl)).trans (h q ((Q 7 (.inr dc)).symm.trans ai)), dT, trivial⟩)
 refine fun aY _ _ iW iX cl cm => ?_
 have hkk : aY = 0 ∨ aY = 1 := by have h1 : 0 ≤ aY := iW; have h2 : aY ≤ 1 := iX; omega
 rcases hkk with rfl | rfl
 have eZ : Sep _ _ _ _ := cl
 exact obl rfl (lD (.map (some R)) uY (cm 2 dc) (zd (eZ.b6) rfl) dR)
 obtain ⟨F, X, fa⟩ := cl
 exact obl rfl (lD (.map (some R)) uY (cm 2 dc) (zd (fa.b7) rfl) dR)
 refine fun aZ _ _ iY iZ cn _ => ?_
 have hkk : aZ = 0 ∨ aZ = 1 := by have h1 : 0 ≤ aZ := iY; have h2 : aZ ≤ 1 := iZ; omega
 rcases hkk with rfl | rfl
 have fb : Sep _ _ _ _ := cn
 exact obl rfl (zg (k := 3) vY wR rfl rfl (CellsAt.all (fb.b3)) dR)
 obtain ⟨F, X, fc⟩ := cn
 exact obl rfl (zg (k := 3) vY wR rfl rfl (CellsAt.all (fc.b4)) dR)
 refine ob1 0 fun _ _ (fd : Sep _ _ _ _) fe => (obl rfl ((zu (k := 10) (parts' := [(0, .agg (e.cells ve0).toArray)]) (c := (e.cells ve0).toArray) pR mT tR dc (xF ⟨rfl, (fe 5 dc), trivial⟩) kr ?_)))
 intro w1413 F ff
 exact fun C Q D => ⟨(Exists.intro F (And.intro Q (fd.new ff))), trivial⟩
 refine ob1 1 fun _ _ fg co => ?_
 obtain ⟨F, X, fh⟩ := fg
 refine obl rfl ((Wq (fh.mv8) K3 lB mB (co 3 dc) (co 4 dc) ?_))
 intro w1425 q fi
 exact fun C Q D => ⟨(Exists.intro F (Exists.intro q (And.intro ((D 6 dc).trans X) (And.intro Q fi)))), trivial⟩
 refine ob1 2 fun _ _ fj _ => ?_
 obtain ⟨F, q, X, S, hS1522⟩ := fj
 exact obl rfl (zt (vs := [m, Iv q]) (i := 0) (v := m) S rfl dR)
 refine ob1 2 fun _ _ fk fl => ?_
 obtain ⟨F, q, X, S, cp⟩ := fk
 refine obl rfl ?_
 have dC := cp.b1
 refine (yj (src := own) (bytes := 96) (x1 := e) (cp.s12_jkacdefghil) Jb (fl 8 (by decide)) X dC (fun _ _ hN => ⟨_, rfl, RowE.soft hN, oe⟩) yqb rfl ?_)
 intro aa w1445 cq
 have fm := cq.r0
 have hr1450s : _ * 96 ≤ _ := fm.2
 exact fun C Q D => ⟨(Exists.intro F (Exists.intro q (Exists.intro aa (And.intro ((D 6 dc).trans X) (And.intro ((D 7 dc).trans S) (And.intro Q cq)))))), trivial⟩
 refine fun ba _ _ ja jb cr _ => ?_
 have hkk : ba = 2 ∨ ba = 3 := by have h1 : 2 ≤ ba := ja; have h2 : ba ≤ 3 := jb; omega
 rcases hkk with rfl | rfl
 obtain ⟨F, q, X, S, hS1529⟩ := cr
 refine obl rfl (zt (vs := [m, Iv q]) (i := 1) (v := Iv q) S rfl (fun C Q D => ⟨rfl, ?_⟩))
 intro dD ai
 rw [D 7 (by decide)] at ai; cases S.symm.trans ai
 exact Q
 obtain ⟨F, q, aa, X, S, aE, hS1530⟩ := cr
 refine obl rfl (zt (vs := [m, Iv q]) (i := 1) (v := Iv q) S rfl (fun C Q D => ⟨rfl, ?_⟩))
 intro dD ai
 rw [D 7 (by decide)] at ai; cases S.symm.trans ai
 exact Q
 refine ob1 3 fun vals _ fn ct => ?_
 obtain ⟨F, q, aa, X, S, aE, fo⟩ := fn
 have jc : vals 10 = (Iv q : Value) := ct 10 dc q S
 refine obl rfl ((XJ (E := E2) (v' := aa) (x' := (yf bi M) ++ [e]) (fo.mv1) (ct 3 dc) jc aE ?_))
 intro w1468 fp
 exact fun C Q D => ⟨(Exists.intro F (Exists.intro q (Exists.intro aa (And.intro ((D 6 dc).trans X) (And.intro ((D 7 dc).trans S) (And.intro ((D 9 dc).trans aE) fp)))))), trivial⟩
 intro vals w1531 fq hA1533
 obtain ⟨F, q, aa, X, S, aE, fr⟩ := fq
 refine zZ (kv := [(0, Ix b 0), (3, Ix s 0), (5, Ix I 0), (6, Ix j 0), (7, Ix g 0), (10, Ix u 0), (82, .agg jO.toArray), (83, Ix u 1), (84, U), (85, Ix s 6), (86, Iv (e.field)), (87, Ix s 7), (88, Iv (e.op)), (89, Ix s 8), (90, Iv (e.arg)), (91, Iv (yY (d.types.getD e.typ.toNat default) (zT d (e.typ, e.agg) M) e.field e.op e.arg)), (92, .bool false)]) sEv (fun ρw1531 => (zb (za ?_)))
 refine WD4 ((fun TT J => WF [fun vals B => Sep N p (J :: TT) B, fun vals B => Sep N p (J :: TT) B]) (hv :: jY :: jT :: (BkP g e) :: (BkT j d e p l) :: bG :: (BkV b l O T P R) :: jR :: aj) (yO xG E2 R (ZW (yt M) bi ((yf bi M) ++ [e])))) (AF [Vl 0 (.agg #[Iv 0, Iv 0]), Vl 1 (.bool false), fun _ => True]) [[], [], [0, 1]] [2] [(0, 0), (0, 0), (0, 0)] fr ⟨ob1 0 fun _ _ (fs : Sep _ _ _ _) _ => obl rfl (zg (k := 2) qT nT rfl rfl (CellsAt.all (fs.b8)) dR), fun _ _ _ _ _ _ _ => obl rfl (aS (.bool false) dR), ?_, trivial⟩ ?_
 refine ob1 0 fun _ _ (cu : Sep _ _ _ _) ft => (obl rfl ((zp (v := .agg #[Iv 0, Iv 0]) (c' := #[Iv 0, Iv 0]) nT rfl (ft 0 dc) (cu.b8) (zW ⟨rfl, rfl, trivial⟩) yqc rfl ?_)))
 intro w1556 fu
 exact fun C Q D => ⟨(cu.pt8 fu), trivial⟩
 intro vals w1572 fv fw
 have cv : Sep _ _ _ _ := fv
 have jd := fw 1 dc
 refine zZ (kv := [(0, Ix b 0), (3, Ix s 0), (5, Ix I 0), (6, Ix j 0), (7, Ix g 0), (10, Ix u 0), (82, .agg jO.toArray), (83, Ix u 1), (84, U), (85, Ix s 6), (86, Iv (e.field)), (87, Ix s 7), (88, Iv (e.op)), (89, Ix s 8), (90, Iv (e.arg)), (91, Iv (yY (d.types.getD e.typ.toNat default) (zT d (e.typ, e.agg) M) e.field e.op e.arg)), (92, .bool false), (4, .bool false)]) ⟨rfl, rfl, rfl, rfl, rfl, rfl, rfl, rfl, rfl, rfl, rfl, rfl, rfl, rfl, rfl, rfl, rfl, (by exact jd), trivial⟩ (fun ρw1572 => (zb (zm (ZF (b := I) oY qT nT rfl rfl (CellsAt.all (cv.b8)) (show _ = (.bool false : Value) from rfl) ?_))))
 have al := bz _ _ cv
 try simp +zetaDelta only at al
 rw [← bx] at al
 have am : (ya d M e).void = false := by show (zJ d M e).1 = false; rw [hT]
 have bl : (zh d (M ++ [ya d M e])) = (ZW (zh d M) (e.typ, e.agg) (yd (e.typ, e.agg) M + 1, (doL (d.types.getD e.typ.toNat default) (zT d (e.typ, e.agg) M) e.field e.op e.arg))) := Vd am
 have bm : (yt (M ++ [ya d M e])) = (ZW (yt M) bi ((yf bi M) ++ [e])) := UD am
 try simp +zetaDelta only at al
 rw [← bl, ← bm] at al
 have fx : Sep _ _ (jW :: _) _ := ViewO.close (d := d) (L := L) (M := (M ++ [ya d M e])) (al.s12_iaklcbdefghj)
 rw [hT]
 refine ⟨rfl, ?_, (fx.s7_a)⟩
 exact ⟨by decide, by decide⟩
 have af := zM af
 have hT : zJ d M e = (true, 0, 0) := hfree.trans (if_pos af)
 refine zj rfl (za ?_)
 try simp +zetaDelta only at aD
 rw [← ds] at aD
 refine WD4 ((fun TT J => WF [fun vals B => Sep N p (J :: TT) B, fun vals B => Sep N p (J :: TT) B]) (jT :: jV :: (BkP g e) :: (BkT j d e p l) :: bG :: (BkV b l O T P R) :: (Md1 R M e m) :: jX :: (RwI ve0 e.deps) :: jR :: aj) jY) (AF [Vl 0 (.agg #[Iv 0, Iv 0]), Vl 1 (.bool true), fun _ => True]) [[], [], [0, 1]] [2] [(0, 0), (0, 0), (0, 0)] aD ⟨ob1 0 fun _ _ (fy : Sep _ _ _ _) _ => obl rfl (zg (k := 2) qT nT rfl rfl (CellsAt.all (fy.b10)) dR), fun _ _ _ _ _ _ _ => obl rfl (aS (.bool true) dR), ?_, trivial⟩ ?_
 refine ob1 0 fun _ _ (cw : Sep _ _ _ _) fz => (obl rfl ((zp (v := .agg #[Iv 0, Iv 0]) (c' := #[Iv 0, Iv 0]) nT rfl (fz 0 dc) (cw.b10) (zW ⟨rfl, rfl, trivial⟩) yqc rfl ?_)))
 intro w1602 fA
 exact fun C Q D => ⟨(cw.pt10 fA), trivial⟩
 intro vals dz fB fC
 have cx : Sep _ _ _ _ := fB
 have je := fC 1 dc
 refine zZ (kv := [(0, Ix b 0), (3, Ix s 0), (5, Ix I 0), (6, Ix j 0), (7, Ix g 0), (10, Ix u 0), (82, .agg jO.toArray), (83, Ix u 1), (84, U), (85, Ix s 6), (86, Iv (e.field)), (87, Ix s 7), (88, Iv (e.op)), (89, Ix s 8), (90, Iv (e.arg)), (91, Iv (yY (d.types.getD e.typ.toNat default) (zT d (e.typ, e.agg) M) e.field e.op e.arg)), (92, .bool true), (4, .bool true)]) ⟨rfl, rfl, rfl, rfl, rfl, rfl, rfl, rfl, rfl, rfl, rfl, rfl, rfl, rfl, rfl, rfl, rfl, (by exact je), trivial⟩ (fun ρw1618 => (zb (zm (ZF (b := I) oY qT nT rfl rfl (CellsAt.all (cx.b10)) (show _ = (.bool true : Value) from rfl) ?_))))
 have bn := bz _ _ cx
 try simp +zetaDelta only at bn
 rw [← bx] at bn
 have fE : Sep _ _ ((Yr E1 (.agg #[Iw (yd (e.typ, e.agg) M), H]) ((zh d M) (e.typ, e.agg))) :: _) _ := WS (bn.mv1) jJ
 have fF : Sep G W (jS :: (RwT l d.types) :: jT :: (BkP g e) :: (BkT j d e p l) :: bG :: (BkV b l O T P R) :: (Md1 R M e m) :: jX :: (RwI ve0 e.deps) :: jR :: (RwP O d.projs) :: (RwN T L) :: Rs) dz := (fE.mv3).mapoPut
 have fG : Sep _ _ ((Yr E2 m ((yt M) bi)) :: _) _ := XY (fF.mv8)
 have bp : Sep G W (jU :: jS :: (RwT l d.types) :: jT :: (BkP g e) :: (BkT j d e p l) :: bG :: (BkV b l O T P R) :: (RwI ve0 e.deps) :: jR :: (RwP O d.projs) :: (RwN T L) :: Rs) dz := (fG.mv8).mapoPut
 have am : (ya d M e).void = true := by show (zJ d M e).1 = true; rw [hT]
 have bl : (zh d (M ++ [ya d M e])) = (zh d M) := (xu am).1
 have bm : (yt (M ++ [ya d M e])) = (yt M) := (xu (d := d) am).2
 try simp +zetaDelta only at bp
 rw [← bl, ← bm] at bp
 have fH : Sep _ _ (jW :: _) _ := ViewO.close (d := d) (L := L) (M := (M ++ [ya d M e])) (bp.s12_hcklbadefgij)
 rw [hT]
 refine ⟨rfl, ?_, (fH.s7_a)⟩
 exact ⟨by decide, by decide⟩
 have aR := tD aR
 refine zj rfl (zk (za (zn (za (R0 fun _ => ?_)))))
 have fI : k < (yf (e.typ, e.agg, e.field) M).length := bo
 refine st (ze (k := 10) (i := k) pR mT rfl aA.sl rfl fI ?_)
 have cy : k < (yf (e.typ, e.agg, e.field) M).length := bo
 obtain ⟨dE, an, bq⟩ := aA.evD cy
 have hsm1638 : (((yf (e.typ, e.agg, e.field) M).getD k default).deps).length * 8 ≤ 140737488355328 := an.small
 have dF := aB.cells dE (aA.foot (ne_of_lt cy))
 refine st (zg (k := 10) pT mT rfl rfl dF (st (zr tR ?_)))
 intro w1642 ap fJ
 have cz := aB.new fJ
 refine stn (zp (v := .agg jQ.toArray) (c' := jQ.toArray) mT rfl rfl (cz.b0) (zW ⟨rfl, rfl, rfl, an.sl.one, rfl, rfl, rfl, rfl, rfl, rfl, trivial⟩) yqc rfl ?_)
 intro w1644 fK
 refine zb (za ?_)
 refine WD4 ((fun J ab ad aH aI => WF [fun vals B => Sep bd Y (J :: (BkP g e) :: ab :: ad :: aH :: aI :: (RwI ve0 e.deps) :: bC) B, fun vals B => (vals 8 = (.bool ((yA (((d.types.getD e.typ.toNat default).fields).getD e.field.toNat default) ((yf bi M).getD k default) e)) : Value)) ∧ Sep bd Y ((RwI ve0 e.deps) :: J :: (BkP g e) :: ab :: ad :: aH :: aI :: bC) B]) (Blk ap jQ.toArray 59) (BkT j d e p l) jR bG (BkV b l O T P R)) (AF [Vl 0 (Ix j 0), Vl 1 (bF), Vl 2 (Ix s 6), Vl 3 (Iv (e.field)), Vl 4 (Ix (sb bF) (so bF + e.field.toNat * 4)), Vl 5 (.agg ((((d.types.getD e.typ.toNat default).fields).getD e.field.toNat default).cells (zy Y (sb bF) (so bF + e.field.toNat * 4 + 3))).toArray), Vl 6 (.agg jQ.toArray), Vl 7 (.agg (e.cells ve0).toArray), fun _ => True]) [[], [0], [], [2], (rg 4), (rg 5), [], [], (rg 8)] [8] [(0, 0), (0, 0), (0, 0), (0, 0), (0, 0), (0, 0), (0, 0), (0, 0), (0, 0)] (cz.pt0 fK) ⟨fun _ _ _ _ _ _ _ => obl rfl (yv rfl dR), ob1 0 fun _ _ (fL : Sep _ _ _ _) fM => obl rfl (lD bF uA (fM 0 dc) (zd (fL.b2) rfl) dR), fun _ _ _ _ _ _ _ => obl rfl (yU rfl dR), ob1 0 fun _ _ (fN : Sep _ _ _ _) fO => obl rfl (lD (Iv (e.field)) lT (fO 2 dc) (zd (fN.b4) rfl) dR), ?_, ?_, ob1 0 fun _ _ (fP : Sep _ _ _ _) _ => obl rfl (zg (k := 10) pT mT rfl rfl (CellsAt.all (fP.b0)) dR), ob1 0 fun _ _ (fQ : Sep _ _ _ _) _ => obl rfl (zg (k := 10) pT mT rfl rfl (CellsAt.all (fQ.b4)) dR), ?_, trivial⟩ ?_
 refine ob1 0 fun _ _ _ cA => (obl rfl ?_)
 have hi1774 : e.field.toNat < ((d.types.getD e.typ.toNat default).fields).length := bo
 exact zq (k := 4) (i := e.field) vT qR (cA 1 dc) (RdS.base V az).sl (cA 3 dc) ⟨by omega, by omega⟩ dR
 refine ob1 0 fun _ _ (fR : Sep _ _ _ _) fS => (obl rfl ?_)
 have cB : e.field.toNat < ((d.types.getD e.typ.toNat default).fields).length := bo
 obtain ⟨dG, cC, hoke1783⟩ := (RdS.base V az).fldD cB
 have hsm1785 : ((((d.types.getD e.typ.toNat default).fields).getD e.field.toNat default).moves).length * 32 ≤ 140737488355328 := cC.small
 have dH := fR.cells dG ((RdS.base V az).foot (ne_of_lt cB))
 exact zg (k := 4) Tryd.isAgg79 qR rfl (fS 4 dc) dH dR
 refine ob1 0 fun vals _ (cD : Sep _ _ _ _) br => (obl rfl ?_)
 have cE : e.field.toNat < ((d.types.getD e.typ.toNat default).fields).length := bo
 obtain ⟨dI, aJ, cQ⟩ := (RdS.base V az).fldD cE
 have hsm1723 : ((((d.types.getD e.typ.toNat default).fields).getD e.field.toNat default).moves).length * 32 ≤ 140737488355328 := aJ.small
 have hcw1724 := cD.cells dI ((RdS.base V az).foot (ne_of_lt cE))
 obtain ⟨G1726, fT, cF, fU, fV⟩ := (cD.mv6).lend
 have bv := RowE.rd fT
 have hrd1732s : _ * 8 ≤ _ := bv.small
 refine (zV (f := 41) (vals := [.agg ((((d.types.getD e.typ.toNat default).fields).getD e.field.toNat default).cells (zy Y (sb bF) (so bF + e.field.toNat * 4 + 3))).toArray, .agg jQ.toArray, .agg (e.cells ve0).toArray]) (cap := []) rfl (yH ⟨(br 5 dc), (br 6 dc), (br 7 dc), trivial⟩) Tryd.call41 (Uz (f := (((d.types.getD e.typ.toNat default).fields).getD e.field.toNat default)) (x := ((yf bi M).getD k default)) (e := e) (RdS.base aJ cF) cQ (RdS.base an cF) bq bv oe fU) ?_)
 rintro _ w1733 ⟨rfl, fW⟩
 have fX := fV _ _ fW
 exact fun C Q D => ⟨(And.intro Q fX), trivial⟩
 intro vals w1801 fY hA1803
 obtain ⟨fZ, cG⟩ := fY
 refine zZ (kv := [(0, Ix b 0), (3, Ix s 0), (5, Ix I 0), (6, Ix j 0), (7, Ix g 0), (49, m), (50, Iw ((yf bi M).length)), (51, Iw k), (52, .bool true), (53, Ix (sb m) (so m + k * 10)), (54, .agg jQ.toArray), (9, Ix ap 0), (63, .bool ((yA (((d.types.getD e.typ.toNat default).fields).getD e.field.toNat default) ((yf bi M).getD k default) e)))]) ⟨rfl, rfl, rfl, rfl, rfl, rfl, rfl, rfl, rfl, rfl, rfl, rfl, (by exact fZ), trivial⟩ (fun ρw1801 => (zb ?_))
 cases cH : (yA (((d.types.getD e.typ.toNat default).fields).getD e.field.toNat default) ((yf (e.typ, e.agg, e.field) M).getD k default) e)
 refine zi rfl (zk (R0 fun _ => ?_))
 have ga : InR ((k + 1 : Nat) : Int) := bo
 refine st (zH (r := ((k + 1 : Nat) : Int)) (k := .i64) (a := ((k : Nat) : Int)) (b := 1) rfl rfl (by rw [show (((k : Nat) : Int) + 1 : Int) = ((k + 1 : Nat) : Int) from bo]; exact zz ga) (st (mV (Iw (k + 1)) (zb ?_))))
 exact ⟨_, by omega, k + 1, _, rfl, sSf, by omega, (xb hno cH), (cG.s7_cdefga)⟩
 have bw := bq
 have hT := Jy hfz om hno cH
 refine zj rfl (za ?_)
 refine WD4 ((fun TT J ab => WF [fun vals B => Sep bd Y ((RwI ve0 e.deps) :: J :: (BkP g e) :: ab :: jR :: TT) B, fun vals B => Sep bd Y ((RwI ve0 e.deps) :: J :: (BkP g e) :: ab :: (Blk I #[Iv (((yf bi M).getD k default).origin), Iv (((yf bi M).getD k default).seq)] 57) :: TT) B]) (bG :: (BkV b l O T P R) :: bC) (Blk ap jQ.toArray 59) (BkT j d e p l)) (AF [Vl 0 (Ix ap 0), Vl 1 (.agg #[Iv (((yf bi M).getD k default).origin), Iv (((yf bi M).getD k default).seq)]), Vl 2 (.bool true), fun _ => True]) [[], [0], [], [0, 1, 2]] [3] [(0, 0), (0, 0), (0, 0), (0, 0)] cG ⟨fun _ _ _ _ _ _ _ => obl rfl (yP rfl dR), ob1 0 fun _ _ (gc : Sep _ _ _ _) gd => obl rfl (zg (k := 2) (cs := [Iv (((yf bi M).getD k default).origin), Iv (((yf bi M).getD k default).seq)]) qT nT rfl (gd 0 dc) (CellsAt.sub (CellsAt.all (gc.b1)) 0 (cs2 := [Iv (((yf bi M).getD k default).origin), Iv (((yf bi M).getD k default).seq)]) rfl) dR), fun _ _ _ _ _ _ _ => obl rfl (aS (.bool true) dR), ?_, trivial⟩ ?_
 refine ob1 0 fun _ _ (cI : Sep _ _ _ _) ge => (obl rfl ((zp (v := .agg #[Iv (((yf bi M).getD k default).origin), Iv (((yf bi M).getD k default).seq)]) (c' := #[Iv (((yf bi M).getD k default).origin), Iv (((yf bi M).getD k default).seq)]) nT rfl (ge 1 dc) (cI.b4) (zW ⟨rfl, rfl, trivial⟩) yqc rfl ?_)))
 intro w1837 gf
 exact fun C Q D => ⟨(cI.pt4 gf), trivial⟩
 intro vals jf gg gh
 have cJ : Sep _ _ _ _ := gg
 have jg := gh 2 dc
 refine zZ (kv := [(0, Ix b 0), (3, Ix s 0), (5, Ix I 0), (6, Ix j 0), (7, Ix g 0), (49, m), (50, Iw ((yf bi M).length)), (51, Iw k), (52, .bool true), (53, Ix (sb m) (so m + k * 10)), (54, .agg jQ.toArray), (9, Ix ap 0), (63, .bool true), (4, .bool true)]) ⟨rfl, rfl, rfl, rfl, rfl, rfl, rfl, rfl, rfl, rfl, rfl, rfl, rfl, (by exact jg), trivial⟩ (fun ρw1860 => (zb (zm (ZF (b := I) oY qT nT rfl rfl (CellsAt.all (cJ.b4)) (show _ = (.bool true : Value) from rfl) ?_))))
 have gi := dl _ _ cJ
 have ao := bz _ _ gi
 try simp +zetaDelta only at ao
 rw [← dp] at ao
 try simp +zetaDelta only at ao
 rw [← bx] at ao
 have gj : Sep _ _ ((Yr E2 m ((yt M) bi)) :: _) _ := XY (ao.mv1)
 have bs : Sep G W (jU :: (RwT l d.types) :: (RwI ve0 e.deps) :: (Blk ap jQ.toArray 59) :: (BkP g e) :: (BkT j d e p l) :: (Blk I #[Iv (((yf bi M).getD k default).origin), Iv (((yf bi M).getD k default).seq)] 57) :: bG :: (BkV b l O T P R) :: jS :: (RwP O d.projs) :: (RwN T L) :: Rs) jf := (gj.mv9).mapoPut
 have am : (ya d M e).void = true := by show (zJ d M e).1 = true; rw [hT]
 have bl : (zh d (M ++ [ya d M e])) = (zh d M) := (xu am).1
 have bm : (yt (M ++ [ya d M e])) = (yt M) := (xu (d := d) am).2
 try simp +zetaDelta only at bs
 rw [← bl, ← bm] at bs
 have gk : Sep _ _ (jW :: _) _ := ViewO.close (d := d) (L := L) (M := (M ++ [ya d M e])) (bs.s12_ibkljacdefgh)
 rw [hT]
 refine ⟨rfl, ?_, (gk.s7_a)⟩
 exact ⟨bw.origin, bw.seq⟩
 have ag := zM ag
 have hT : zJ d M e = (true, 0, 0) := Yc ag
 refine zj rfl (za (WD4 ((fun TT => WF [fun vals B => Sep G W ((RwT l d.types) :: TT) B, fun vals B => Sep G W ((RwT l d.types) :: TT) B]) ((RwP O d.projs) :: jR :: bG :: (BkV b l O T P R) :: (RwN T L) :: jS :: jU :: (RwI ve0 e.deps) :: Rs)) (AF [Vl 0 (.agg #[Iv 0, Iv 0]), Vl 1 (.bool true), fun _ => True]) [[], [], [0, 1]] [2] [(0, 0), (0, 0), (0, 0)] cT ⟨ob1 0 fun _ _ (gl : Sep _ _ _ _) _ => obl rfl (zg (k := 2) qT nT rfl rfl (CellsAt.all (gl.b2)) dR), fun _ _ _ _ _ _ _ => obl rfl (aS (.bool true) dR), ?_, trivial⟩ ?_))
 refine ob1 0 fun _ _ (cK : Sep _ _ _ _) gm => (obl rfl ((zp (v := .agg #[Iv 0, Iv 0]) (c' := #[Iv 0, Iv 0]) nT rfl (gm 0 dc) (cK.b2) (zW ⟨rfl, rfl, trivial⟩) yqc rfl ?_)))
 intro w1895 gn
 exact fun C Q D => ⟨(cK.pt2 gn), trivial⟩
 intro vals w1911 go gp
 have aF : Sep _ _ _ _ := go
 have jh := gp 1 dc
 refine zZ (kv := [(0, Ix b 0), (1, .agg (e.cells ve0).toArray), (3, Ix s 0), (4, .bool true), (5, Ix I 0), (25, .bool true)]) ⟨rfl, rfl, rfl, (by exact jh), rfl, rfl, trivial⟩ (fun ρw1911 => (zb (zm (ZF (b := I) oY qT nT rfl rfl (CellsAt.all (aF.b2)) (show _ = (.bool true : Value) from rfl) ?_))))
 have am : (ya d M e).void = true := by show (zJ d M e).1 = true; rw [hT]
 have bl : (zh d (M ++ [ya d M e])) = (zh d M) := (xu am).1
 have bm : (yt (M ++ [ya d M e])) = (yt M) := (xu (d := d) am).2
 try simp +zetaDelta only at aF
 rw [← bl, ← bm] at aF
 have gq : Sep _ _ (jW :: _) _ := ViewO.close (d := d) (L := L) (M := (M ++ [ya d M e])) (aF.s9_eabfghcdi)
 rw [hT]
 refine ⟨rfl, ?_, (gq.s4_a)⟩
 exact ⟨by decide, by decide⟩

end Go.Proofs.YtlblilbmpdejgaaDoor
set_option maxRecDepth 8000
set_option maxHeartbeats 4000000
namespace Go.Proofs.YtlblilbmpdejgaaDoor
open Go.Proofs Go.RowKit
theorem yqg {p : Prop} (h : p := by simp [Instr.build, Instr.fill, go_sem, Ent.cells, Ev.cells, ya]) : p := h

def ye (d : Dcl) (k : Int × Int) (L : List Ent) : Sta := ⟨((yd k L : Nat) : Int), stL d k L⟩
theorem yq (d : Dcl) (l : List Ev) : (zY d l).length = l.length := by
  induction l using xI with
  | h0 => rfl
  | h1 l e ih => rw [xe, List.length_append, List.length_append, ih]; rfl
theorem Yw {d : Dcl} {l : List Ev} {k : Nat} (h : k < l.length) : zY d (l.take (k + 1)) = zY d (l.take k) ++ [ya d (zY d (l.take k)) (l.getD k default)] := by rw [List.take_getD (d := default) h, xe]
theorem YW {d : Dcl} {l : List Ev} {k : Nat} (h : l.length ≤ 1000000) : (zY d (l.take k)).length ≤ 1000000 := by rw [yq, List.length_take]; omega
set_option maxHeartbeats 8000000 in
theorem WT {G : Nat → Prop} {W w : World} {Rs : List HP} {b : Nat} {d : Dcl} {L : List Ent} {e : Ev} {de0 : Value} (hde0 : RdS W G de0 e.deps) (oe : e.Ok) (hKN : RdS W G (.slice (some ⟨0, 0, none⟩) 6 6) kindsL) (hS0 : Sep G W ((ViewO b d L L) :: Rs) w) (hd : DclOk d) (hinv : Inv d L) (hml : L.length ≤ 1000000) : Ret Tryd.prog 28 [.pointer (some ⟨b, 0, none⟩), .agg (e.cells de0).toArray] w (fun r w' => ∃ (v : Value), r = (.agg ((ya d L e).cells v).toArray : Value) ∧ Sep G W ((ViewO b d (L ++ [ya d L e]) (L ++ [ya d L e])) :: (RowE (α := Int) own 3 v e.deps) :: Rs) w') := by
 have hde0s : _ * 8 ≤ _ := hde0.small
 have hKNs : _ * 8 ≤ _ := hKN.small
 refine zl (args := [Ix b 0, .agg (e.cells de0).toArray]) Tryd.func28 rfl rfl ?_
 refine za (R0 fun _ => st (zR (v := .agg (e.cells de0).toArray) rfl ?_))
 intro w3 b2 bB
 let bH := Blk b2 (e.cells de0).toArray 59
 refine st (zr sY ?_)
 intro w7 U bC
 let bo := Blk U #[Iv 0, Iv 0, Iv 0, (Iz), Iv 0, Iv 0, Iv 0, Iv 0, Iv 0, Iv 0, .bool false, Iv 0, Iv 0] 62
 have bd := (hS0.new bB).new bC
 refine zb (za (R0 fun _ => st (mV (Ix b 0) (st (zg (k := 10) pT mT rfl rfl (CellsAt.all (bd.b1)) (st (cL pY (YT (e := e) hde0 oe bd) ?_)))))))
 rintro _ w10 ⟨v9, rfl, ah⟩
 have bf := ah.r0
 have hr12s : _ * 8 ≤ _ := bf.2
 refine st (cL Tryd.call59 (D_try  oe hKN (ah.mv3) (hd) (hinv) (hml)) ?_)
 rintro _ w15 ⟨rfl, V, bg⟩
 refine st (mV (.tuple #[.bool ((zJ d L e).1), .agg #[Iv ((zJ d L e).2.1), Iv ((zJ d L e).2.2)]]) (st (zt (vs := [.bool ((zJ d L e).1), .agg #[Iv ((zJ d L e).2.1), Iv ((zJ d L e).2.2)]]) (i := 0) (v := .bool ((zJ d L e).1)) rfl rfl (st (zt (vs := [.bool ((zJ d L e).1), .agg #[Iv ((zJ d L e).2.1), Iv ((zJ d L e).2.2)]]) (i := 1) (v := .agg #[Iv ((zJ d L e).2.1), Iv ((zJ d L e).2.2)]) rfl rfl (st (zr vA ?_)))))))
 intro w19 T bh
 let bD := Blk T #[Iv ((zJ d L e).2.1), Iv ((zJ d L e).2.2)] 57
 have ai := bg.new bh
 refine st (aS (.bool ((zJ d L e).1)) (stn (zp (v := .agg #[Iv ((zJ d L e).2.1), Iv ((zJ d L e).2.2)]) (c' := #[Iv ((zJ d L e).2.1), Iv ((zJ d L e).2.2)]) nT rfl rfl (ai.b0) (zW ⟨rfl, rfl, trivial⟩) yqc rfl ?_)))
 intro bE bi
 refine zb (za ?_)
 have hek : Ent.Ok (ya d L e) := ⟨oe, V.1, V.2⟩
 obtain ⟨s, t, u, A, B, bj⟩ := ViewO.open ((ai.pt0 bi).mv1)
 let bG := yO xG E2 B (yt (L ++ [ya d L e]))
 let bF := yO xL E1 A (zh d (L ++ [ya d L e]))
 have I : Sep G W ((BkV b s t u A B) :: (RwT s d.types) :: (RwP t d.projs) :: (RwN u L) :: bF :: bG :: bD :: bo :: bH :: Rs) bE := bj
 have bk := I.r1
 have hr31s : _ * 24 ≤ _ := bk.2
 have bl := I.r2
 have hr32s : _ * 40 ≤ _ := bl.2
 have bm := I.r3
 have hr33s : _ * 120 ≤ _ := bm.2
 refine WD4 ((fun TT H C D J => WF [fun vals z => Sep G W (H :: C :: D :: J :: TT) z, fun vals z => ∃ (a : Value), (vals 6 = (.agg (e.cells a).toArray : Value)) ∧ Sep G W ((RwI a e.deps) :: H :: C :: D :: J :: TT) z, fun vals z => ∃ (a : Value) (l : Nat), (vals 6 = (.agg (e.cells a).toArray : Value)) ∧ (vals 10 = ((Iy l 1 1) : Value)) ∧ Sep G W ((Blk l ((ya d L e).cells a).toArray 62) :: (RwI a e.deps) :: H :: C :: D :: J :: TT) z, fun vals z => ∃ (a : Value) (l : Nat) (j : Value), (vals 6 = (.agg (e.cells a).toArray : Value)) ∧ (vals 10 = ((Iy l 1 1) : Value)) ∧ (vals 11 = (j : Value)) ∧ Sep G W ((RwN j (L ++ [(ya d L e)])) :: H :: C :: D :: TT) z, fun vals z => ∃ (a : Value) (l : Nat) (j : Value), (vals 6 = (.agg (e.cells a).toArray : Value)) ∧ (vals 10 = ((Iy l 1 1) : Value)) ∧ (vals 11 = (j : Value)) ∧ Sep G W ((RwN j (L ++ [(ya d L e)])) :: (BkV b s t j A B) :: C :: D :: TT) z]) (bF :: bG :: bD :: bo :: bH :: Rs) (BkV b s t u A B) (RwT s d.types) (RwP t d.projs) (RwN u L)) (AF [Vl 0 (Ix b 0), Vl 1 (Ix b 0), Vl 2 (Ix b 0), Vl 3 (Ix b 2), Vl 4 (u), Vl 5 (.agg (e.cells de0).toArray), fun _ => True, Vl 7 (.bool ((zJ d L e).1)), Vl 8 (.agg #[Iv ((zJ d L e).2.1), Iv ((zJ d L e).2.2)]), fun vals => ∀ (a : Value), vals 6 = (.agg (e.cells a).toArray : Value) → vals 9 = (.agg ((ya d L e).cells a).toArray : Value), fun _ => True, fun _ => True, Vl 12 (Ix b 0), Vl 13 (Ix b 2), fun _ => True]) [[], [], [1], [1, 2], [1, 2, 3], [], [5], [], [], [5, 6, 7, 8], [5, 6, 7, 8, 9], [1, 2, 3, 4, 5, 6, 7, 8, 9, 10], (rg 12), (rg 13), (rg 14)] [6, 10, 11, 14] [(0, 3), (0, 2), (0, 2), (0, 2), (0, 2), (0, 0), (0, 0), (0, 1), (0, 1), (1, 1), (1, 1), (2, 2), (3, 3), (3, 3), (3, 3)] I ⟨fun _ _ _ _ _ _ _ => obl rfl (mV (Ix b 0) dR), fun _ _ _ _ _ _ _ => obl rfl (mV (Ix b 0) dR), fun _ _ _ _ _ _ ao => obl rfl (zE (b := b) (o := 0) (ao 1 dc) dR), fun _ _ _ _ _ _ ap => obl rfl (WH (ap 2 dc) dR), ?_, ob1 0 fun _ _ (aq : Sep _ _ _ _) _ => obl rfl (zg (k := 10) pT mT rfl rfl (CellsAt.all (aq.b8)) dR), ?_, fun _ _ _ _ _ _ _ => obl rfl (mV (.bool ((zJ d L e).1)) dR), ?_, ?_, ?_, ?_, ?_, ?_, ?_, trivial⟩ ?_ (hlocA := yT ⟨dA, dA, dA, dA, dA, dA, dT, dA, dA, fun vals p x h => fun a E => (x 9 (.inl rfl)).trans (h a ((x 6 (.inr dc)).symm.trans E)), dT, dT, dA, dA, dT, trivial⟩)
 refine fun K _ _ bn bp N O => ?_
 have hkk : K = 0 ∨ K = 1 ∨ K = 2 := by have h1 : 0 ≤ K := bn; have h2 : K ≤ 2 := bp; omega
 rcases hkk with rfl | rfl | rfl
 have ar : Sep _ _ _ _ := N
 exact obl rfl (lD u qY (O 3 dc) (zd (ar.b0) rfl) dR)
 obtain ⟨a, m, au⟩ := N
 exact obl rfl (lD u qY (O 3 dc) (zd (au.b1) rfl) dR)
 obtain ⟨a, l, m, q, av⟩ := N
 exact obl rfl (lD u qY (O 3 dc) (zd (av.b2) rfl) dR)
 refine ob1 0 fun vals _ (bq : Sep _ _ _ _) br => (obl rfl ((zV (f := 60) (vals := [.agg (e.cells de0).toArray]) (cap := []) rfl (yH ⟨(br 5 dc), trivial⟩) pY (YT (e := e) hde0 oe bq) ?_)))
 rintro _ w84 ⟨a, rfl, aj⟩
 have bs := aj.r0
 have hr86s : _ * 8 ≤ _ := bs.2
 exact fun p x n => ⟨(Exists.intro a (And.intro x aj)), trivial⟩
 refine fun P _ _ bt bu X _ => ?_
 have hkk : P = 0 ∨ P = 1 := by have h1 : 0 ≤ P := bt; have h2 : P ≤ 1 := bu; omega
 rcases hkk with rfl | rfl
 have aw : Sep _ _ _ _ := X
 exact obl rfl (zg (k := 2) qT nT rfl rfl (CellsAt.all (aw.b6)) dR)
 obtain ⟨a, m, ax⟩ := X
 exact obl rfl (zg (k := 2) qT nT rfl rfl (CellsAt.all (ax.b7)) dR)
 refine ob1 1 fun _ _ ay Y => ?_
 obtain ⟨a, m, hS231⟩ := ay
 refine obl rfl (zQ (parts' := [(0, .agg (e.cells a).toArray), (1, .bool ((zJ d L e).1)), (2, .agg #[Iv ((zJ d L e).2.1), Iv ((zJ d L e).2.2)])]) (v := .agg ((ya d L e).cells a).toArray) (xF ⟨rfl, m, rfl, (Y 7 (by decide)), rfl, (Y 8 (by decide)), trivial⟩) yqg (fun p x n => ⟨rfl, ?_⟩))
 intro v83q E
 rw [n 6 (by decide)] at E; cases m.symm.trans E
 exact x
 refine ob1 1 fun vals _ az aA => ?_
 obtain ⟨a, m, aB⟩ := az
 have bv : vals 9 = (.agg ((ya d L e).cells a).toArray : Value) := aA 9 dc a m
 refine obl rfl ((zu (k := 13) (parts' := [(0, .agg ((ya d L e).cells a).toArray)]) (c := ((ya d L e).cells a).toArray) wT nR sY dc (xF ⟨rfl, bv, trivial⟩) kr ?_))
 intro w120 l aC
 exact fun p x n => ⟨(Exists.intro a (Exists.intro l (And.intro ((n 6 dc).trans m) (And.intro x (aB.new aC))))), trivial⟩
 refine ob1 2 fun _ _ aD aE => ?_
 obtain ⟨a, l, m, q, Z⟩ := aD
 refine obl rfl ?_
 have ak := Z.b0
 refine (yj (src := own) (bytes := 120) (x1 := (ya d L e)) (Z.s11_fbcdeghijk) Qc (aE 4 (by decide)) q ak (fun _ _ hN => ⟨_, rfl, RowE.soft hN, hek⟩) yqb rfl ?_)
 intro j w131 aa
 have aF := aa.r0
 have hr136s : _ * 120 ≤ _ := aF.2
 exact fun p x n => ⟨(Exists.intro a (Exists.intro l (Exists.intro j (And.intro ((n 6 dc).trans m) (And.intro ((n 10 dc).trans q) (And.intro x aa)))))), trivial⟩
 refine ob1 3 fun _ _ aG aH => ?_
 obtain ⟨a, l, j, m, q, F, hS240⟩ := aG
 exact obl rfl (zE (b := b) (o := 0) (aH 0 dc) dR)
 refine ob1 3 fun _ _ aI aJ => ?_
 obtain ⟨a, l, j, m, q, F, hS248⟩ := aI
 exact obl rfl (WH (aJ 12 dc) dR)
 refine ob1 3 fun _ _ aK aL => ?_
 obtain ⟨a, l, j, m, q, F, Q⟩ := aK
 refine obl rfl ?_
 have ab := Q.r0
 have hr164s : _ * 120 ≤ _ := ab.2
 refine (yp (v := j) (c := [s, t, u, .map (some A), .map (some B)]) (c' := [s, t, j, .map (some A), .map (some B)]) Tryd.sizeOf66 (aL 13 dc) F (Q.b1) ab.1.one rfl rfl ?_)
 intro w162 aM
 exact fun p x n => ⟨(Exists.intro a (Exists.intro l (Exists.intro j (And.intro ((n 6 dc).trans m) (And.intro ((n 10 dc).trans q) (And.intro ((n 11 dc).trans F) (Q.pt1 aM))))))), trivial⟩
 intro vals w250 aN hA252
 obtain ⟨a, l, j, m, q, F, aO⟩ := aN
 refine zZ (kv := [(0, Ix b 0), (1, .agg (e.cells de0).toArray), (3, Ix b2 0), (4, Ix U 0), (8, Ix b 0), (9, .agg (e.cells de0).toArray), (10, .agg (e.cells v9).toArray), (11, .tuple #[.bool ((zJ d L e).1), .agg #[Iv ((zJ d L e).2.1), Iv ((zJ d L e).2.2)]]), (7, .tuple #[.bool ((zJ d L e).1), .agg #[Iv ((zJ d L e).2.1), Iv ((zJ d L e).2.2)]]), (12, .bool ((zJ d L e).1)), (13, .agg #[Iv ((zJ d L e).2.1), Iv ((zJ d L e).2.2)]), (6, Ix T 0), (5, .bool ((zJ d L e).1))]) sEv (fun ρw250 => (zb (za ?_)))
 refine WD4 ((fun TT H C D J al am an be => WF [fun vals z => Sep G W (H :: C :: D :: J :: al :: am :: an :: be :: TT) z, fun vals z => ∃ (g : Value), (vals 1 = (.agg (e.cells g).toArray : Value)) ∧ Sep G W ((RwI g e.deps) :: H :: C :: D :: J :: al :: am :: an :: be :: TT) z, fun vals z => ∃ (g : Value), (vals 1 = (.agg (e.cells g).toArray : Value)) ∧ Sep G W ((RwI g e.deps) :: H :: C :: D :: J :: al :: am :: an :: (Blk U ((ya d L e).cells g).toArray 62) :: TT) z]) (bH :: Rs) (RwN j (L ++ [(ya d L e)])) (BkV b s t j A B) (RwT s d.types) (RwP t d.projs) bF bG bD bo) (AF [Vl 0 (.agg (e.cells de0).toArray), fun _ => True, Vl 2 (.bool ((zJ d L e).1)), Vl 3 (.agg #[Iv ((zJ d L e).2.1), Iv ((zJ d L e).2.2)]), fun vals => ∀ (g : Value), vals 1 = (.agg (e.cells g).toArray : Value) → vals 4 = (.agg ((ya d L e).cells g).toArray : Value), fun _ => True]) [[], [0], [], [], (rg 4), (rg 5)] [1, 5] [(0, 0), (0, 0), (0, 1), (0, 1), (1, 1), (1, 1)] aO ⟨ob1 0 fun _ _ (aP : Sep _ _ _ _) _ => obl rfl (zg (k := 10) pT mT rfl rfl (CellsAt.all (aP.b8)) dR), ?_, fun _ _ _ _ _ _ _ => obl rfl (mV (.bool ((zJ d L e).1)) dR), ?_, ?_, ?_, trivial⟩ ?_ (hlocA := yT ⟨dA, dT, dA, dA, fun vals p x h => fun g E => (x 4 (.inl rfl)).trans (h g ((x 1 (.inr dc)).symm.trans E)), dT, trivial⟩)
 refine ob1 0 fun vals _ (aQ : Sep _ _ _ _) aR => (obl rfl ((zV (f := 60) (vals := [.agg (e.cells de0).toArray]) (cap := []) rfl (yH ⟨(aR 0 dc), trivial⟩) pY (YT (e := e) hde0 oe aQ) ?_)))
 rintro _ w270 ⟨g, rfl, ac⟩
 have aT := ac.r0
 have hr272s : _ * 8 ≤ _ := aT.2
 exact fun p x n => ⟨(Exists.intro g (And.intro x ac)), trivial⟩
 refine fun R _ _ bw bx ad _ => ?_
 have hkk : R = 0 ∨ R = 1 := by have h1 : 0 ≤ R := bw; have h2 : R ≤ 1 := bx; omega
 rcases hkk with rfl | rfl
 have aU : Sep _ _ _ _ := ad
 exact obl rfl (zg (k := 2) qT nT rfl rfl (CellsAt.all (aU.b6)) dR)
 obtain ⟨g, y, aV⟩ := ad
 exact obl rfl (zg (k := 2) qT nT rfl rfl (CellsAt.all (aV.b7)) dR)
 refine ob1 1 fun _ _ aW ae => ?_
 obtain ⟨g, y, hS335⟩ := aW
 refine obl rfl (zQ (parts' := [(0, .agg (e.cells g).toArray), (1, .bool ((zJ d L e).1)), (2, .agg #[Iv ((zJ d L e).2.1), Iv ((zJ d L e).2.2)])]) (v := .agg ((ya d L e).cells g).toArray) (xF ⟨rfl, y, rfl, (ae 2 (by decide)), rfl, (ae 3 (by decide)), trivial⟩) yqg (fun p x n => ⟨rfl, ?_⟩))
 intro v269q E
 rw [n 1 (by decide)] at E; cases y.symm.trans E
 exact x
 refine ob1 1 fun vals _ aX aY => ?_
 obtain ⟨g, y, S⟩ := aX
 have bz : vals 4 = (.agg ((ya d L e).cells g).toArray : Value) := aY 4 dc g y
 refine obl rfl ?_
 have af := S.r0
 have hr306s : _ * 8 ≤ _ := af.2
 refine (zp (v := .agg ((ya d L e).cells g).toArray) (c' := ((ya d L e).cells g).toArray) nR rfl bz (S.b8) (zW ⟨rfl, rfl, rfl, af.1.one, rfl, rfl, rfl, rfl, rfl, rfl, rfl, rfl, rfl, trivial⟩) yqc rfl ?_)
 intro w304 aZ
 exact fun p x n => ⟨(Exists.intro g (And.intro ((n 1 dc).trans y) (S.pt8 aZ))), trivial⟩
 intro vals bA ba hA340
 obtain ⟨g, y, ag⟩ := ba
 refine zZ (kv := [(0, Ix b 0), (1, .agg (e.cells de0).toArray), (3, Ix b2 0), (4, Ix U 0), (8, Ix b 0), (9, .agg (e.cells de0).toArray), (10, .agg (e.cells v9).toArray), (11, .tuple #[.bool ((zJ d L e).1), .agg #[Iv ((zJ d L e).2.1), Iv ((zJ d L e).2.2)]]), (7, .tuple #[.bool ((zJ d L e).1), .agg #[Iv ((zJ d L e).2.1), Iv ((zJ d L e).2.2)]]), (12, .bool ((zJ d L e).1)), (13, .agg #[Iv ((zJ d L e).2.1), Iv ((zJ d L e).2.2)]), (6, Ix T 0), (5, .bool ((zJ d L e).1))]) sEv (fun ρw338 => (zb (zm (XK (b := U) Tryd.results28 Tryd.isAgg62 nR rfl rfl (CellsAt.all (ag.b8)) ?_))))
 have bb : Sep _ _ ((ViewO b d (L ++ [ya d L e]) (L ++ [ya d L e])) :: _) _ := ViewO.close (d := d) (L := (L ++ [ya d L e])) (M := (L ++ [ya d L e])) (ag.s10_cdebfgahij)
 have bc : Sep G W ((ViewO b d (L ++ [ya d L e]) (L ++ [ya d L e])) :: (RwI g e.deps) :: Rs) bA := bb.sel 5 [0, 1] (Nat.le_add_left _ _) rfl rfl
 refine ⟨g, rfl, bc⟩

theorem xw {G : Nat → Prop} {W w : World} {Rs : List HP} {b : Nat} {d : Dcl} {L : List Ent} {ty : Int} (hty : InR ty) {no : Int} (hno : InR no) (hS0 : Sep G W ((ViewO b d L L) :: Rs) w) : Ret Tryd.prog 32 [.pointer (some ⟨b, 0, none⟩), .int .i64 (ty), .int .i64 (no)] w (fun r w' => ∃ (v : Value), r = (.tuple #[.agg ((ye d (ty, no) L).cells v).toArray, .bool ((zh d L (ty, no)).isSome)] : Value) ∧ Sep G W ((ViewO b d L L) :: (RowE (α := Cel) own 42 v (stL d (ty, no) L)) :: Rs) w') := by
 refine zl (args := [Ix b 0, Iv ty, Iv no]) Tryd.func32 rfl rfl ?_
 refine za (R0 fun _ => st (zr lR ?_))
 intro U b2 V
 refine st (aS (.bool false) (zb (za (R0 fun _ => ?_))))
 obtain ⟨f, g, h, m, j, B⟩ := ViewO.open ((hS0.new V).mv1)
 let aa := Blk b #[f, g, h, .map (some m), .map (some j)] 111
 have c : Sep G W (aa :: (RowE (α := Typ) own 33 f d.types) :: (RowE (α := Prj) own 107 g d.projs) :: (RowE (α := Ent) own 62 h L) :: (yO xL E1 m (zh d L)) :: (yO xG E2 j (yt L)) :: (Blk b2 #[Iv 0, (Iz)] 68) :: Rs) U := B
 have C := c.r1
 have hr12s : _ * 24 ≤ _ := C.2
 have D := c.r2
 have hr13s : _ * 40 ≤ _ := D.2
 have E := c.r3
 have hr14s : _ * 120 ≤ _ := E.2
 obtain ⟨vs16, A, F⟩ := (c.mv4).mapoTake Vr (ty, no)
 obtain ⟨a, rfl, H⟩ := Wb (F.mv1) A
 have e : Sep G W ((RowE (α := Cel) own 42 a (stL d (ty, no) L)) :: (Zi xL E1 Vr m (zh d L) (ty, no) (.agg #[Iw (yd (ty, no) L), a])) :: aa :: (RowE (α := Typ) own 33 f d.types) :: (RowE (α := Prj) own 107 g d.projs) :: (RowE (α := Ent) own 62 h L) :: (yO xG E2 j (yt L)) :: (Blk b2 #[Iv 0, (Iz)] 68) :: Rs) U := H
 have p := e.r0
 have hr22s : _ * 32 ≤ _ := p.2
 have hve9 := YX (ty, no) L
 refine st (mV (Ix b 0) (st (zE (b := b) (o := 0) rfl (st (WI rfl (st (lD (.map (some m)) sR rfl (zd (e.b2) rfl) (st (mV (Iv ty) (st (mV (Iv no) (st (zQ (parts' := [(0, Iv ty), (1, Iv no)]) (v := .agg #[Iv ty, Iv no]) rfl yqf (st (Zz e (i := 1) rfl K2 nY lR rfl rfl (st (mV (.tuple #[.agg #[Iw (yd (ty, no) L), a], .bool (((zh d L) (ty, no)).isSome)]) (st (zt (vs := [.agg #[Iw (yd (ty, no) L), a], .bool (((zh d L) (ty, no)).isSome)]) (i := 0) (v := .agg #[Iw (yd (ty, no) L), a]) rfl rfl ?_)))))))))))))))))))
 refine st (zt (vs := [.agg #[Iw (yd (ty, no) L), a], .bool (((zh d L) (ty, no)).isSome)]) (i := 1) (v := .bool (((zh d L) (ty, no)).isSome)) rfl rfl (st (zr lR ?_)))
 intro w25 X I
 have q := e.new I
 refine stn (zp (v := .agg #[Iw (yd (ty, no) L), a]) (c' := #[Iw (yd (ty, no) L), a]) sT rfl rfl (q.b0) (zW ⟨rfl, p.1.one, trivial⟩) yqc rfl ?_)
 intro w27 J
 have K : Sta.Ok (⟨((yd (ty, no) L : Nat) : Int), stL d (ty, no) L⟩ : Sta) := ⟨(show InR (((yd (ty, no) L : Nat) : Int)) from om)⟩
 have s := q.pt0 J
 refine st (aS (.bool (((zh d L) (ty, no)).isSome)) (zb (za (R0 fun _ => st (zg (k := 2) uR sT rfl rfl (CellsAt.all (s.b0)) ?_)))))
 obtain ⟨G32, N, hB35, O, P⟩ := (s.mv1).lend
 have n := RowE.rd N
 have hrd38s : _ * 32 ≤ _ := n.small
 refine st (cL Tryd.call63 (QK (x := (⟨((yd (ty, no) L : Nat) : Int), stL d (ty, no) L⟩ : Sta)) n K O) ?_)
 rintro _ w40 ⟨l, rfl, t⟩
 let Z := ((⟨((yd (ty, no) L : Nat) : Int), stL d (ty, no) L⟩ : Sta).cells l)
 have u := t.r0
 have hr42s : _ * 32 ≤ _ := u.2
 have y := P _ _ t
 refine st (mV (.bool (((zh d L) (ty, no)).isSome)) (stn (zp (v := .agg Z.toArray) (c' := Z.toArray) sT rfl rfl (y.b9) (zW ⟨rfl, u.1.one, trivial⟩) yqc rfl ?_)))
 intro Y Q
 have z := y.pt9 Q
 refine st (aS (.bool (((zh d L) (ty, no)).isSome)) (zb (zm (ZA (b := b2) Tryd.results32 uR sT rfl rfl (CellsAt.all (z.b9)) (show _ = (.bool (((zh d L) (ty, no)).isSome) : Value) from rfl) ?_))))
 have R : Sep _ _ ((Yr E1 (.agg #[Iw (yd (ty, no) L), a]) ((zh d L) (ty, no))) :: _) _ := VY z
 have S : Sep G W ((yO xL E1 m (zh d L)) :: (RowE (α := Cel) own 42 l ((⟨((yd (ty, no) L : Nat) : Int), stL d (ty, no) L⟩ : Sta).cls)) :: (Blk X ((⟨((yd (ty, no) L : Nat) : Int), stL d (ty, no) L⟩ : Sta).cells a).toArray 68) :: aa :: (RowE (α := Typ) own 33 f d.types) :: (RowE (α := Prj) own 107 g d.projs) :: (RowE (α := Ent) own 62 h L) :: (yO xG E2 j (yt L)) :: (Blk b2 Z.toArray 68) :: Rs) Y := (R.mv3).mapoPut
 have T : Sep _ _ ((ViewO b d L L) :: _) _ := ViewO.close (d := d) (L := L) (M := L) (S.s9_defgahbci)
 refine ⟨l, rfl, (T.s4_ab)⟩

theorem yW {G : Nat → Prop} {W w : World} {Rs : List HP} {b : Nat} {d : Dcl} {L : List Ent} (hS0 : Sep G W ((ViewO b d L L) :: Rs) w) : Ret Tryd.prog 36 [.pointer (some ⟨b, 0, none⟩)] w (fun r w' => ∃ (v : Value), r = (v : Value) ∧ Sep G W ((ViewO b d L L) :: (RowE (α := Ent) own 62 v L) :: Rs) w') := by
 refine zl (args := [Ix b 0]) Tryd.func36 rfl rfl ?_
 refine za (R0 fun _ => st (aS (Iz) (zb (za ?_))))
 obtain ⟨g, h, m, D, E, ac⟩ := ViewO.open hS0
 have q : Sep G W ((Blk b #[g, h, m, .map (some D), .map (some E)] 111) :: (RowE (α := Typ) own 33 g d.types) :: (RowE (α := Prj) own 107 h d.projs) :: (RowE (α := Ent) own 62 m L) :: (yO xL E1 D (zh d L)) :: (yO xG E2 E (yt L)) :: Rs) w := ac
 have ad := q.r1
 have hr7s : _ * 24 ≤ _ := ad.2
 have ae := q.r2
 have hr8s : _ * 40 ≤ _ := ae.2
 have af := q.r3
 have hr9s : _ * 120 ≤ _ := af.2
 obtain ⟨F, R, hB14, H, S⟩ := (q.mv3).lend
 have B := RowE.rd R
 have hrd17s : _ * 120 ≤ _ := B.small
 refine R0 fun _ => st (mV (Ix b 0) (st (zE (b := b) (o := 0) rfl (st (WH rfl (st (lD m qY rfl (zd (H.b0) rfl) (st (cL Tryd.call65 (VT (l := L) (vl := m) B H) ?_)))))))))
 rintro c w19 ⟨_, rfl, I⟩
 have J := I.r0
 have hr21s : _ * 120 ≤ _ := J.2
 refine st (aS c (zb (za (za (R0 fun _ => st (mV c (st (zA (n := L.length) wT rfl J.1 (st (mV (Iv 0) (zb (zn ?_))))))))))))
 have T := I.toMix
 refine zX (fun mq σ wq => ∃ (k : Nat) (ρ : Env), mq = L.length - k ∧ σ = yb ρ [(0, Ix b 0), (2, (Iz)), (3, c), (11, Iw L.length), (12, Iw k)] ∧ (k ≤ L.length) ∧ Sep F w ((RowE (α := Bool × Ent) (mix (α := Ent) F w) 62 c (xX k L)) :: (Blk b #[g, h, m, .map (some D), .map (some E)] 111) :: (RowE (α := Typ) own 33 g d.types) :: (RowE (α := Prj) own 107 h d.projs) :: (yO xL E1 D (zh d L)) :: (yO xG E2 E (yt L)) :: Rs) wq) ⟨0, _, rfl, sSf, Nat.zero_le _, T⟩ ?_
 rintro m24 σ25 ag ⟨k, ρl1, rfl, rfl, hkk, s⟩
 have z := s.r0
 rw [xx] at z
 refine za (R0 fun _ => st (zD (k := .i64) (a := ((k : Nat) : Int)) (b := ((L.length : Nat) : Int)) rfl rfl (zb (za ?_))))
 cases t : decide (((k : Nat) : Int) < ((L.length : Nat) : Int))
 have t := fD t
 have K : Sep F w ((RowE (α := Ent) own 62 c L) :: (Blk b #[g, h, m, .map (some D), .map (some E)] 111) :: (RowE (α := Typ) own 33 g d.types) :: (RowE (α := Prj) own 107 h d.projs) :: (yO xL E1 D (zh d L)) :: (yO xG E2 E (yt L)) :: Rs) ag := s.ofMix om
 have U := K.r0
 have hr30s : _ * 120 ≤ _ := U.2
 refine zi rfl (zU (zI (za (R0 fun _ => st (mV c (st (aS c (zb (zm (zL Tryd.results36 (show _ = (c : Value) from rfl) ?_))))))))))
 have V := S _ _ K
 have X : Sep _ _ ((ViewO b d L L) :: _) _ := ViewO.close (d := d) (L := L) (M := L) (V.s7_cdeafgb)
 refine ⟨c, rfl, X⟩
 have t := tD t
 refine zj rfl (zk (za (zn (za (R0 fun _ => st (mV (Iw k) (st (aS (Iw k) (zb (R0 fun _ => st (mV c (st (mV (Iw k) (st (mV c (st (mV (Iw k) ?_)))))))))))))))))
 have Y : k < L.length := bo
 refine st (ze (k := 13) (i := k) wT nR rfl z.1 rfl Y (st (xq rfl ?_)))
 have N : k < L.length := bo
 obtain ⟨_, C, x, rfl, p, y⟩ := s.mixAt (i := 0) (j := k) rfl (Nat.le_refl _) N
 rw [← zG default N] at C p y
 refine st (zg (k := 10) (cs := [Iv ((L.getD k default).ev.origin), Iv ((L.getD k default).ev.seq), Iv ((L.getD k default).ev.lam), x, Iv ((L.getD k default).ev.typ), Iv ((L.getD k default).ev.agg), Iv ((L.getD k default).ev.field), Iv ((L.getD k default).ev.op), Iv ((L.getD k default).ev.arg), Iv ((L.getD k default).ev.key)]) pT mT rfl rfl (CellsAt.sub C 0 (cs2 := [Iv ((L.getD k default).ev.origin), Iv ((L.getD k default).ev.seq), Iv ((L.getD k default).ev.lam), x, Iv ((L.getD k default).ev.typ), Iv ((L.getD k default).ev.agg), Iv ((L.getD k default).ev.field), Iv ((L.getD k default).ev.op), Iv ((L.getD k default).ev.arg), Iv ((L.getD k default).ev.key)]) rfl) (st (cL pY (YT (e := ((L.getD k default).ev)) p y.ev s) ?_)))
 rintro _ w38 ⟨Q, rfl, O⟩
 have P := O.r0
 have hr40s : _ * 8 ≤ _ := P.2
 have Z : k < L.length := bo
 refine st (ze (k := 13) (i := k) wT nR rfl z.1 rfl Z (st (xq rfl ?_)))
 have A : k < L.length := bo
 refine stn (Yy (α := Ent) (j := k) (o := 0) (u := .agg (((L.getD k default).ev).cells Q).toArray) (us := ((L.getD k default).ev).cells Q) (O.mv1) mT A rfl rfl rfl (Nat.le_of_ble_eq_true rfl) (zW ⟨rfl, rfl, rfl, P.1.one, rfl, rfl, rfl, rfl, rfl, rfl, trivial⟩) (fun w f cs0 hr hN => (by obtain ⟨d, rfl, hd, hok⟩ := hr; rw [zG default A]; exact ⟨_, rfl, (by rw [← zG default A]; exact RowE.soft hN), hok⟩)) ?_)
 intro w42 aa
 refine zb (R0 fun _ => ?_)
 have ab : InR ((k + 1 : Nat) : Int) := bo
 refine st (zH (r := ((k + 1 : Nat) : Int)) (k := .i64) (a := ((k : Nat) : Int)) (b := 1) rfl rfl (by rw [show (((k : Nat) : Int) + 1 : Int) = ((k + 1 : Nat) : Int) from bo]; exact zz ab) (st (mV (Iw (k + 1)) (zb ?_))))
 exact ⟨_, by omega, k + 1, _, rfl, sSf, by omega, aa⟩

theorem YH {G : Nat → Prop} {W w : World} {Rs : List HP} {d : Dcl} {dd0 : Value} (hdd0 : RdS W G dd0 d.types) {dd1 : Value} (hdd1 : RdS W G dd1 d.projs) (od : d.Ok) {vl : Value} {l : List Ev} (hl : RdS W G vl l) (hKN : RdS W G (.slice (some ⟨0, 0, none⟩) 6 6) kindsL) (hS0 : Sep G W Rs w) (hd : DclOk d) (hfew : l.length ≤ 1000000) : Ret Tryd.prog 38 [.agg (d.cells dd0 dd1).toArray, vl] w (fun r w' => ∃ (b : Nat), r = (.pointer (some ⟨b, 0, none⟩) : Value) ∧ Sep G W ((ViewO b d (zY d l) (zY d l)) :: Rs) w') := by
 have hdd0s : _ * 24 ≤ _ := hdd0.small
 have hdd1s : _ * 40 ≤ _ := hdd1.small
 have hls : _ * 96 ≤ _ := hl.small
 have hKNs : _ * 8 ≤ _ := hKN.small
 refine zl (args := [.agg (d.cells dd0 dd1).toArray, vl]) Tryd.func38 rfl rfl ?_
 refine za (R0 fun _ => st (zR (v := .agg (d.cells dd0 dd1).toArray) rfl ?_))
 intro w3 b2 F
 have y := hS0.new F
 refine st (aS (.pointer none) (zb (za (R0 fun _ => st (zg (k := 2) rR mR rfl rfl (CellsAt.all (y.b0)) (st (cL Tryd.call24 (Ww (d := d) hdd0 hdd1 od y) ?_)))))))
 rintro _ w6 ⟨g, rfl, H⟩
 refine st (aS (Ix g 0) (zb (za (za (R0 fun _ => st (mV vl (st (zA (n := l.length) pR rfl hl.sl (st (mV (Iv 0) (zb (zn (zX (fun mq σ I => ∃ (k : Nat) (ρ : Env), mq = l.length - k ∧ σ = yb ρ [(2, Ix b2 0), (5, Ix g 0), (10, vl), (11, Iw l.length), (12, Iw k)] ∧ (k ≤ l.length) ∧ Sep G W ((ViewO g d (zY d (l.take k)) (zY d (l.take k))) :: (Blk b2 (d.cells dd0 dd1).toArray 25) :: Rs) I) ⟨0, _, rfl, sSf, Nat.zero_le _, H⟩ ?_)))))))))))))
 rintro m9 σ10 w8 ⟨k, ρl1, rfl, rfl, hkk, h⟩
 refine za (R0 fun _ => st (zD (k := .i64) (a := ((k : Nat) : Int)) (b := ((l.length : Nat) : Int)) rfl rfl (zb (za ?_))))
 cases f : decide (((k : Nat) : Int) < ((l.length : Nat) : Int))
 have f := fD f
 refine zi rfl (zU (zI (za (R0 fun _ => st (mV (Ix g 0) (st (aS (Ix g 0) (zb (zm (zL Tryd.results38 (show _ = (Ix g 0 : Value) from rfl) ?_))))))))))
 have j := h.s2_a
 have hkn : k = l.length := by omega
 rw [hkn, List.take_length] at j
 refine ⟨g, rfl, j⟩
 have f := tD f
 refine zj rfl (zk (za (zn (za (R0 fun _ => ?_)))))
 have z : k < l.length := bo
 refine st (ze (k := 10) (i := k) pR mT rfl hl.sl rfl z ?_)
 have m : k < l.length := bo
 obtain ⟨u, c, o⟩ := hl.evD m
 have hsm17 : ((l.getD k default).deps).length * 8 ≤ 140737488355328 := c.small
 have x := h.cells u (hl.foot (ne_of_lt m))
 refine st (zg (k := 10) pT mT rfl rfl x (st (zr tR ?_)))
 intro w21 b20 A
 have p := h.new A
 refine stn (zp (v := .agg ((l.getD k default).cells (zy W (sb vl) (so vl + k * 10 + 3))).toArray) (c' := ((l.getD k default).cells (zy W (sb vl) (so vl + k * 10 + 3))).toArray) mT rfl rfl (p.b0) (zW ⟨rfl, rfl, rfl, c.sl.one, rfl, rfl, rfl, rfl, rfl, rfl, trivial⟩) yqc rfl ?_)
 intro w23 B
 have q := p.pt0 B
 refine zb (R0 fun _ => st (mV (Ix g 0) (st (zg (k := 10) pT mT rfl rfl (CellsAt.all (q.b0)) (st (cL Tryd.call28 (WT (e := (l.getD k default)) c o hKN (q.mv1) (hd) ((Inv.run hd _)) ((YW hfew))) ?_))))))
 rintro _ w28 ⟨v27, rfl, s⟩
 have C := s.r1
 have hr30s : _ * 8 ≤ _ := C.2
 refine zb (R0 fun _ => ?_)
 have D : InR ((k + 1 : Nat) : Int) := bo
 refine st (zH (r := ((k + 1 : Nat) : Int)) (k := .i64) (a := ((k : Nat) : Int)) (b := 1) rfl rfl (by rw [show (((k : Nat) : Int) + 1 : Int) = ((k + 1 : Nat) : Int) from bo]; exact zz D) (st (mV (Iw (k + 1)) (zb ?_))))
 have t := s.s4_ad
 have E : (zY d (l.take (k + 1))) = ((zY d (l.take k)) ++ [ya d (zY d (l.take k)) (l.getD k default)]) := (Yw om)
 rw [← E] at t
 exact ⟨_, by omega, k + 1, _, rfl, sSf, by omega, t⟩

end Go.Proofs.YtlblilbmpdejgaaDoor
