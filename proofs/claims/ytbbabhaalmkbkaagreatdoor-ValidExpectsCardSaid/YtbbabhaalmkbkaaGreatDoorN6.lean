import Derived.Test.YtbbabhaalmkbkaaGreatDoorN5
import Derived.Test.YtbbabhaalmkbkaaGreatDoorN1
set_option linter.unusedSimpArgs false
set_option linter.unusedVariables false
set_option linter.unusedSectionVars false
set_option linter.deprecated false
set_option maxRecDepth 8000
set_option maxHeartbeats 4000000
open Go.Proofs.Tryz renaming isAgg3 → kT, sizeOf41 → lT, sizeOf38 → mT, isAgg38 → nT, underlying26 → oT, sizeOf53 → pT, isAgg41 → qT, isAgg53 → rT, underlying39 → sT, zeroValue47 → tT, isAgg39 → uT, results24 → vT, isAgg25 → wT, sizeOf25 → kR, isAgg80 → lR, sizeOf47 → mR, isAgg22 → nR, underlying22 → oR, sizeOf131 → pR, isAgg85 → qR, sizeOf85 → rR, underlying80 → sR, zeroValue41 → tR, results40 → uR, isAgg81 → vR, isAgg131 → wR, call41 → kY, isAgg79 → lY, sizeOf57 → mY, sizeOf3 → nY, zeroValue38 → oY, call51 → pY, zeroValue53 → qY, zeroValue131 → rY, underlying81 → sY, zeroValue26 → tY, isAgg45 → uY, sizeOf110 → vY, underlying79 → wY, zeroValue57 → kA, isAgg47 → lA, results6 → mA, results27 → nA, call53 → pA
namespace Go.Proofs.YtbbabhaalmkbkaaGreatDoor
open Go.Proofs Go.RowKit

theorem US {P : Program} {n : Nat} {c : Code} {Q : xH} {σ : Env} {w : World} (J : Env → World → Prop) (h : WP P n c (fun e σ w => e = .normal ∧ J σ w) σ w) (hq : ∀ σ w, J σ w → Q .normal σ w) : WP P n c Q σ w := fun a hs =>
  wp_mono (h a hs) (by rintro e a' w' ⟨σ'', hs'', rfl, hj⟩; exact ⟨σ'', hs'', hq _ _ hj⟩)
abbrev RwV (v : Value) (l : List Ev) : HP := RowE (α := Ev) own 41 v l
abbrev RwN (v : Value) (l : List Ent) : HP := RowE (α := Ent) own 57 v l
abbrev RwT (v : Value) (l : List Typ) : HP := RowE (α := Typ) own 53 v l
abbrev RwP (v : Value) (l : List Prj) : HP := RowE (α := Prj) own 115 v l
abbrev RwI (v : Value) (l : List Int) : HP := RowE (α := Int) own 3 v l
abbrev RwC (v : Value) (l : List Cel) : HP := RowE (α := Cel) own 99 v l
abbrev Ms1 (m : Nat) (d : Dcl) (M : List Ent) (k : Int × Int) (vc : Value) : HP := xE yI E1 VG m (zq d M) k (.agg #[.int .i64 ((zU k M : Nat) : Int), vc])
abbrev Md1 (m : Nat) (M : List Ent) (e : Ev) (v : Value) : HP := xE xA E2 (.slice none 0 0) m (yw M) (e.typ, e.agg, e.field) v
abbrev BkP (b : Nat) (e : Ev) : HP := Blk b #[.int .i64 e.typ, .int .i64 e.agg, .int .i64 e.field] 131
abbrev BkT (b : Nat) (d : Dcl) (e : Ev) (W : World) (v : Value) : HP := Blk b ((d.types.getD e.typ.toNat default).cells (zP W (sb v) (so v + e.typ.toNat * 1 + 0))).toArray 53
abbrev BkV (b : Nat) (vt vp ve : Value) (m4 m5 : Nat) : HP := Blk b #[vt, vp, ve, .map (some m4), .map (some m5)] 83
abbrev BkS (b : Nat) (M : List Ent) (k : Int × Int) (v : Value) : HP := Blk b #[.int .i64 ((zU k M : Nat) : Int), v] 47
abbrev clL (d : Dcl) (M : List Ent) (e : Ev) : List Cel := zY d (e.typ, e.agg) M
theorem WE {P : Program} {σ : Env} {w : World} {fn : Func} {a u : Tmp} {t : TypeId} {R : Value → World → Prop} {b k : Nat} {cs : List Value} {v' : Value} (hr : fn.results = #[.tmp u, .cell a t]) (hA : ∀ w, (isAgg t).run P w = .ok true w) (hS : ∀ w, (sizeOf t).run P w = .ok k w) (hk : cs.length = k)
    (hv : σ a = .pointer (some ⟨b, 0, none⟩)) (hc : CellsAt w b 0 cs) (hu : σ u = v') (h : R (.tuple #[v', .agg cs.toArray]) w) : ZM P fn R .ret σ w := by
  subst hk
  refine ⟨_, fun tmps ht => ?_, h⟩
  have := yB (P := P) (w := w) b 0 cs 0 #[] (fun j hj => by simpa using hc j hj)
  have e : tmps[a]?.getD undef = .pointer (some ⟨b, 0, none⟩) := by rw [← hv, ← ht a]; simp
  have e2 : tmps[u]?.getD undef = v' := by rw [← hu, ← ht u]; simp
  simp [results, hr, e, e2, asAddr, loadVar, hA, hS, loadCells, this, go_sem]
theorem UC {p : Ev → Bool} : ∀ {l : List Ev} {k : Nat}, k < l.length → (∀ i, i < k → p (l.getD i default) = false) → p (l.getD k default) = true → l.find? p = some (l.getD k default)
  | [], k, hk, _, _ => absurd hk (Nat.not_lt_zero k)
  | x :: l, 0, _, _, h1 => by have h1 : p x = true := h1; rw [List.find?_cons, h1]; rfl
  | x :: l, k + 1, hk, h0, h1 => by
    have hx : p x = false := h0 0 (Nat.succ_pos _)
    rw [List.find?_cons, hx]
    exact UC (by simpa using hk) (fun i hi => h0 (i + 1) (by omega)) h1
theorem zal {p : Ev → Bool} {l : List Ev} (h : ∀ i, i < l.length → p (l.getD i default) = false) : l.find? p = none := by
  rw [List.find?_eq_none]
  intro x hx
  obtain ⟨i, hi, rfl⟩ := List.getElem_of_mem hx
  have := h i hi
  rw [zA _ hi] at this
  rw [this]; decide
theorem KR (k : Int × Int × Int) (L : List Ent) : (zX k L).length ≤ L.length := by unfold zX; rw [List.length_map]; exact List.length_filter_le _ _
section
variable {d : Dcl} {M : List Ent} {e : Ev}
theorem Ui (h : ¬ yL d e.typ e.field e.op e.arg = 0) : yf d M e = (true, 0, 0) := by unfold yf; rw [if_pos h]
theorem zbr {k : Nat} (h : yL d e.typ e.field e.op e.arg = 0) (hk : k < (zX (e.typ, e.agg, e.field) M).length) (h0 : ∀ i, i < k → xn ((d.types.getD e.typ.toNat default).fields.getD e.field.toNat default) ((zX (e.typ, e.agg, e.field) M).getD i default) e = false)
    (h1 : xn ((d.types.getD e.typ.toNat default).fields.getD e.field.toNat default) ((zX (e.typ, e.agg, e.field) M).getD k default) e = true) : yf d M e = (true, ((zX (e.typ, e.agg, e.field) M).getD k default).origin, ((zX (e.typ, e.agg, e.field) M).getD k default).seq) := by
  unfold yf xT
  rw [if_neg (by simpa using h), UC (p := fun x => xn ((d.types.getD e.typ.toNat default).fields.getD e.field.toNat default) x e) hk h0 h1]
theorem QQ (h : yL d e.typ e.field e.op e.arg = 0) (h0 : ∀ i, i < (zX (e.typ, e.agg, e.field) M).length → xn ((d.types.getD e.typ.toNat default).fields.getD e.field.toNat default) ((zX (e.typ, e.agg, e.field) M).getD i default) e = false) :
    yf d M e = if ¬ yP (d.types.getD e.typ.toNat default) (zY d (e.typ, e.agg) M) e.field e.op e.arg = 0 then (true, 0, 0) else (false, 0, 0) := by
  unfold yf xT
  rw [if_neg (by simpa using h), zal (p := fun x => xn ((d.types.getD e.typ.toNat default).fields.getD e.field.toNat default) x e) h0]
end
theorem Vs {G : Nat → Prop} {W w : World} {As : List HP} {d : Dcl} {M : List Ent} {v2 vc : Value} {k : Int × Int} (h : Sep G W (RowE (α := Cel) own 99 v2 (zY d k M) :: As) w) (hv : v2 = vc ∨ zU k M = 0) : Sep G W (Yu E1 (.agg #[.int .i64 ((zU k M : Nat) : Int), vc]) (zq d M k) :: As) w := by
  refine h.impl (i := 0) rfl (fun f hA => ?_)
  unfold zq
  by_cases he : zU k M = 0
  · rw [if_pos he]; exact trivial
  · rw [if_neg he]
    obtain rfl := hv.resolve_right he
    exact ⟨v2, rfl, hA⟩
theorem KV {d : Dcl} {M : List Ent} {k : Int × Int} (h : (zq d M k).isSome = false) : zU k M = 0 := by
  unfold zq at h
  by_cases h8 : zU k M = 0
  · exact h8
  · rw [if_neg h8] at h; cases h
theorem Jm {d : Dcl} {M : List Ent} {k : Int × Int} (h : (zq d M k).isSome = true) : ¬ zU k M = 0 := by
  intro h8
  unfold zq at h
  rw [if_pos h8] at h; cases h
theorem zba {t : Typ} {c : List Cel} {f : Int} (h : Right t c) (h0 : 0 ≤ f) (h1 : f < t.fields.length) : (yd c f).set.length ≤ 1000 := by
  have := h.most f.toNat (by have := h.len; omega)
  exact Nat.le_trans this (by omega)
theorem zbj : Elem Tryz.prog 26 41 10 96 := ⟨oT, _, _, rfl, rfl, rfl, rfl, rfl⟩
set_option maxHeartbeats 8000000 in
theorem D_try {G : Nat → Prop} {W w : World} {Rs : List HP} {b : Nat} {d : Dcl} {L : List Ent} {M : List Ent} {e : Ev} {ve0 : Value} (oe : e.Ok) (hKN : RdS W G (.slice (some ⟨0, 0, none⟩) 6 6) kindsL) (hS0 : Sep G W ((ViewO b d L M) :: (RowE (α := Int) own 3 ve0 e.deps) :: Rs) w) (hd : DclOk d) (hinv : Inv d M) (hml : M.length ≤ 1000000) : Ret Tryz.prog 40 [.pointer (some ⟨b, 0, none⟩), .agg (e.cells ve0).toArray] w (fun r w' => r = (.tuple #[.bool ((yf d M e).1), .agg #[.int .i64 ((yf d M e).2.1), .int .i64 ((yf d M e).2.2)]] : Value) ∧ (InR (yf d M e).2.1 ∧ InR (yf d M e).2.2) ∧ Sep G W ((ViewO b d L (M ++ [yA d M e])) :: Rs) w') := by
 let jZ := ViewO b d L (M ++ [yA d M e])
 let bi := (e.typ, e.agg, e.field)
 have hKNs : _ * 8 ≤ _ := hKN.small
 refine zi (args := [Ix b 0, .agg (e.cells ve0).toArray]) Tryz.func40 rfl rfl ?_
 obtain ⟨l, O, T, P, R, jN⟩ := ViewO.open hS0
 let jX := MapO xA E2 R (yw M)
 let jV := MapO yI E1 P (zq d M)
 let hv := MapO yI E1 P (Zr (zq d M) (e.typ, e.agg) (zU (e.typ, e.agg) M + 1, (doL (d.types.getD e.typ.toNat default) (clL d M e) e.field e.op e.arg)))
 have bb : Sep G W ((BkV b l O T P R) :: (RwT l d.types) :: (RwP O d.projs) :: (RwN T L) :: jV :: jX :: (RwI ve0 e.deps) :: Rs) w := jN
 have jO := bb.r1
 have hr7s : _ * 24 ≤ _ := jO.2
 have jP := bb.r2
 have hr8s : _ * 40 ≤ _ := jP.2
 have jQ := bb.r3
 have hr9s : _ * 120 ≤ _ := jQ.2
 have jn := bb.r6
 have hr10s : _ * 8 ≤ _ := jn.2
 refine za (R0 fun _ => st (zH (v := .agg (e.cells ve0).toArray) rfl ?_))
 intro w13 s jo
 let bG := Blk s (e.cells ve0).toArray 41
 refine st (aS (.bool false) (st (zr oY ?_)))
 intro w17 I jp
 let jU := Blk I #[Iv 0, Iv 0] 38
 refine zd (za (za ?_))
 refine WD4 ((fun TT J ab ad => WF [fun vals B => Sep G W (J :: ab :: ad :: (RwT l d.types) :: (RwP O d.projs) :: TT) B, fun vals B => (vals 12 = (Iv (yL d e.typ e.field e.op e.arg) : Value)) ∧ Sep G W ((RwT l d.types) :: (RwP O d.projs) :: J :: ab :: ad :: TT) B]) ((RwN T L) :: jV :: jX :: (RwI ve0 e.deps) :: Rs) jU bG (BkV b l O T P R)) (AF [Vl 0 (Ix b 0), Vl 1 (Ix b 0), Vl 2 (Ix b 0), Vl 3 (.agg (d.cells l O).toArray), Vl 4 (Ix s 4), Vl 5 (Iv (e.typ)), Vl 6 (Ix s 6), Vl 7 (Iv (e.field)), Vl 8 (Ix s 7), Vl 9 (Iv (e.op)), Vl 10 (Ix s 8), Vl 11 (Iv (e.arg)), fun _ => True, Vl 13 (.bool (!decide ((yL d e.typ e.field e.op e.arg) = 0)))]) [[], [0], [0, 1], [0, 1, 2], [], [4], [], [6], [], [8], [], [10], (rg 12), (rg 13)] [12] [(0, 0), (0, 0), (0, 0), (0, 0), (0, 0), (0, 0), (0, 0), (0, 0), (0, 0), (0, 0), (0, 0), (0, 0), (0, 0), (1, 1)] ((bb.new jo).new jp) ⟨fun _ _ _ _ _ _ _ => obl rfl (mV (Ix b 0) dR), fun _ _ _ _ _ _ gu => obl rfl (zx (b := b) (o := 0) (gu 0 dc) dR), fun _ _ _ _ _ _ gv => obl rfl (KN (gv 1 dc) dR), ?_, fun _ _ _ _ _ _ _ => obl rfl (Zh rfl dR), ob1 0 fun _ _ (gw : Sep _ _ _ _) gx => obl rfl (lD (Iv (e.typ)) kT (gx 4 dc) (zb (gw.b1) rfl) dR), fun _ _ _ _ _ _ _ => obl rfl (xF rfl dR), ob1 0 fun _ _ (gy : Sep _ _ _ _) gz => obl rfl (lD (Iv (e.field)) kT (gz 6 dc) (zb (gy.b1) rfl) dR), fun _ _ _ _ _ _ _ => obl rfl (xK rfl dR), ob1 0 fun _ _ (gA : Sep _ _ _ _) gB => obl rfl (lD (Iv (e.op)) kT (gB 8 dc) (zb (gA.b1) rfl) dR), fun _ _ _ _ _ _ _ => obl rfl (Zn rfl dR), ob1 0 fun _ _ (gC : Sep _ _ _ _) gD => obl rfl (lD (Iv (e.arg)) kT (gD 10 dc) (zb (gC.b1) rfl) dR), ?_, ?_, trivial⟩ ?_
 refine ob1 0 fun _ _ (gE : Sep _ _ _ _) gF => (obl rfl ?_)
 have ok172 : Dcl.Ok d := ⟨⟩
 exact zf (k := 2) (cs := [l, O]) wT kR rfl (gF 2 dc) (CellsAt.sub (CellsAt.all (gE.b2)) 0 (cs2 := [l, O]) rfl) dR
 refine ob1 0 fun vals _ (gG : Sep _ _ _ _) aq => (obl rfl ?_)
 obtain ⟨G117, gH, gI, gJ, gK⟩ := (gG.mv3).lend
 have bK := RowE.rd gH
 have hrd123s : _ * 24 ≤ _ := bK.small
 obtain ⟨G125, gL, cT, gM, gN⟩ := (gJ.mv3).lend
 have bL := RowE.rd gL
 have hrd131s : _ * 40 ≤ _ := bL.small
 refine (zB (f := 51) (vals := [.agg (d.cells l O).toArray, Iv (e.typ), Iv (e.field), Iv (e.op), Iv (e.arg)]) (cap := []) rfl (yE ⟨(aq 3 dc), (aq 5 dc), (aq 7 dc), (aq 9 dc), (aq 11 dc), trivial⟩) pY (Ks (d := d) (ty := e.typ) (f := e.field) (op := e.op) (arg := e.arg) (RdS.base bK cT) bL (⟨⟩ : Dcl.Ok d) oe.typ oe.field oe.op oe.arg (RdS.base (RdS.base hKN gI) cT) gM) ?_)
 rintro _ w132 ⟨rfl, gO⟩
 have gP := gN _ _ gO
 have gQ := gK _ _ gP
 exact fun C Q D => ⟨(And.intro Q gQ), trivial⟩
 refine ob1 1 fun _ _ gR _ => ?_
 obtain ⟨cU, hS235⟩ := gR
 exact obl rfl (yr (k := .i64) (a := yL d e.typ e.field e.op e.arg) (b := 0) cU rfl dR)
 intro vals p gS gT
 let bF := zP p (sb l) (so l + e.typ.toNat * 1 + 0)
 let jR := (d.types.getD e.typ.toNat default).cells bF
 obtain ⟨cU, cV⟩ := gS
 have jq := gT 13 dc
 refine zT (kv := [(0, Ix b 0), (1, .agg (e.cells ve0).toArray), (3, Ix s 0), (4, .bool false), (5, Ix I 0), (25, .bool (!decide ((yL d e.typ e.field e.op e.arg) = 0)))]) ⟨rfl, rfl, rfl, rfl, rfl, (by exact jq), trivial⟩ (fun ρw236 => (zd ?_))
 cases ag : !decide ((yL d e.typ e.field e.op e.arg) = 0)
 have ag := yp ag
 have hfo := Wy ag
 have hfz := ag
 have dM := hfo.1; have dN := hfo.2.1; have hft := hfo.2.2
 have hfl := hft.lo; have hfh := hft.hi
 refine zg rfl (zl (za ?_))
 have cW := cV.s9_acdeghibf
 generalize bx : ((RwP O d.projs) :: (RwN T L) :: Rs) = aj at cW
 obtain ⟨N, gU, hB248, gV, bz⟩ := cW.lend
 have K := RowE.rd gU
 have hrd251s : _ * 24 ≤ _ := K.small
 refine WD6 ((fun TT J => WF [fun vals B => Sep N p (J :: TT) B, fun vals B => ∃ (j : Nat), (vals 17 = (Ix j 0 : Value)) ∧ Sep N p ((Blk j #[(Iz)] 53) :: J :: TT) B, fun vals B => ∃ (g : Nat), (vals 18 = (Ix g 0 : Value)) ∧ Sep N p ((Blk g #[Iv 0, Iv 0, Iv 0] 131) :: J :: TT) B, fun vals B => ∃ (j : Nat) (g : Nat), (vals 17 = (Ix j 0 : Value)) ∧ (vals 18 = (Ix g 0 : Value)) ∧ Sep N p ((Blk g #[Iv 0, Iv 0, Iv 0] 131) :: (Blk j #[(Iz)] 53) :: J :: TT) B, fun _ _ => True, fun _ _ => True, fun _ _ => True, fun vals B => ∃ (j : Nat) (g : Nat), (vals 17 = (Ix j 0 : Value)) ∧ (vals 18 = (Ix g 0 : Value)) ∧ Sep N p ((Blk g #[Iv 0, Iv 0, Iv 0] 131) :: (BkT j d e p l) :: J :: TT) B, fun _ _ => True, fun _ _ => True, fun _ _ => True, fun _ _ => True, fun _ _ => True, fun _ _ => True, fun _ _ => True, fun vals B => ∃ (j : Nat) (g : Nat), (vals 17 = (Ix j 0 : Value)) ∧ (vals 18 = (Ix g 0 : Value)) ∧ Sep N p ((BkP g e) :: (BkT j d e p l) :: J :: TT) B]) (bG :: (BkV b l O T P R) :: jV :: jX :: (RwI ve0 e.deps) :: aj) jU) (AF [Vl 0 (Ix b 0), Vl 1 (Ix b 0), Vl 2 (Ix b 0), Vl 3 (Ix b 0), Vl 4 (l), Vl 5 (Ix s 4), Vl 6 (Iv (e.typ)), Vl 7 (Ix (sb l) (so l + e.typ.toNat * 1)), Vl 8 (.agg jR.toArray), Vl 9 (Ix s 4), Vl 10 (Iv (e.typ)), Vl 11 (Ix s 5), Vl 12 (Iv (e.agg)), Vl 13 (.agg #[Iv (e.typ), Iv (e.agg)]), Vl 14 (Ix s 6), Vl 15 (Iv (e.field)), Vl 16 (.agg #[Iv (e.typ), Iv (e.agg), Iv (e.field)]), fun _ => True, fun _ => True, fun _ => True, fun _ => True]) [[], [0], [0, 1], [0, 1, 2], (rg 4), [], [5], (rg 7), (rg 8), [], [9], [], [11], [9, 10, 11, 12], [], [14], [9, 10, 11, 12, 13, 14, 15], [], [], [0, 1, 2, 3, 4, 5, 6, 7, 8, 17, 18], (rg 20)] [17, 18, 19, 20] [(rg 4), (rg 4), (rg 4), (rg 4), (rg 4), (rg 4), (rg 4), (rg 4), (rg 4), [0, 1, 2, 3, 7], [0, 1, 2, 3, 7], [0, 1, 2, 3, 7], [0, 1, 2, 3, 7], [0, 1, 2, 3, 7], [0, 1, 2, 3, 7], [0, 1, 2, 3, 7], [0, 1, 2, 3, 7], [0, 2], [0, 1], [3], [7]] gV ⟨fun _ _ _ _ _ _ => obl rfl (mV (Ix b 0) dR), fun _ _ _ _ _ gW => obl rfl (zx (b := b) (o := 0) (gW 0 (by decide)) dR), fun _ _ _ _ _ gX => obl rfl (KN (gX 1 (by decide)) dR), fun _ _ _ _ _ gY => obl rfl (yC (gY 2 (by decide)) dR), ?_, fun _ _ _ _ _ _ => obl rfl (Zh rfl dR), ?_, ?_, ?_, fun _ _ _ _ _ _ => obl rfl (Zh rfl dR), ?_, fun _ _ _ _ _ _ => obl rfl (Xf rfl dR), ?_, fun _ _ _ _ _ cX => obl rfl (zI (parts' := [(0, Iv (e.typ)), (1, Iv (e.agg))]) (v := .agg #[Iv (e.typ), Iv (e.agg)]) (Zq ⟨rfl, (cX 10 (by decide)), rfl, (cX 12 (by decide)), trivial⟩) (by simp +zetaDelta [Instr.build, Instr.fill, Ev.cells, go_sem, Mv.cells, Fld.cells, Typ.cells, Prj.cells, Dcl.cells, Cel.cells, AskR.cells, CelS.cells, Ev.cells, Ent.cells, Sta.cells]) dR), fun _ _ _ _ _ _ => obl rfl (xF rfl dR), ?_, fun _ _ _ _ _ cY => obl rfl (zI (parts' := [(0, .agg #[Iv (e.typ), Iv (e.agg)]), (1, Iv (e.field))]) (v := .agg #[Iv (e.typ), Iv (e.agg), Iv (e.field)]) (Zq ⟨rfl, (cY 13 (by decide)), rfl, (cY 15 (by decide)), trivial⟩) (by simp +zetaDelta [Instr.build, Instr.fill, Ev.cells, go_sem, Mv.cells, Fld.cells, Typ.cells, Prj.cells, Dcl.cells, Cel.cells, AskR.cells, CelS.cells, Ev.cells, Ent.cells, Sta.cells]) dR), ?_, ?_, ?_, ?_, trivial⟩ ?_
 intro jr vals w439 gZ aK aL
 have bM : jr ∈ [0, 1, 2, 3] := gZ
 simp only [List.mem_cons, List.not_mem_nil, or_false] at bM
 rcases bM with rfl | rfl | rfl | rfl
 have ha : Sep _ _ _ _ := aK
 exact obl rfl (lD l nR (aL 3 dc) (zb (ha.b2) rfl) dR)
 obtain ⟨j, y, hb⟩ := aK
 exact obl rfl (lD l nR (aL 3 dc) (zb (hb.b3) rfl) dR)
 obtain ⟨g, z, hc⟩ := aK
 exact obl rfl (lD l nR (aL 3 dc) (zb (hc.b3) rfl) dR)
 obtain ⟨j, g, y, z, he⟩ := aK
 exact obl rfl (lD l nR (aL 3 dc) (zb (he.b4) rfl) dR)
 intro js vals w457 hf aM aN
 have bN : js ∈ [0, 1, 2, 3] := hf
 simp only [List.mem_cons, List.not_mem_nil, or_false] at bN
 rcases bN with rfl | rfl | rfl | rfl
 have hg : Sep _ _ _ _ := aM
 exact obl rfl (lD (Iv (e.typ)) kT (aN 5 dc) (zb (hg.b1) rfl) dR)
 obtain ⟨j, y, hh⟩ := aM
 exact obl rfl (lD (Iv (e.typ)) kT (aN 5 dc) (zb (hh.b2) rfl) dR)
 obtain ⟨g, z, hj⟩ := aM
 exact obl rfl (lD (Iv (e.typ)) kT (aN 5 dc) (zb (hj.b2) rfl) dR)
 obtain ⟨j, g, y, z, hk⟩ := aM
 exact obl rfl (lD (Iv (e.typ)) kT (aN 5 dc) (zb (hk.b3) rfl) dR)
 intro jt vals w470 hl aO ae
 have bO : jt ∈ [0, 1, 2, 3] := hl
 simp only [List.mem_cons, List.not_mem_nil, or_false] at bO
 rcases bO with rfl | rfl | rfl | rfl
 have hS474 : Sep _ _ _ _ := aO
 refine obl rfl ?_
 have hi477 : e.typ.toNat < d.types.length := bo
 exact zz (k := 1) (i := e.typ) oR pT (ae 4 dc) K.sl (ae 6 dc) ⟨by omega, by omega⟩ dR
 obtain ⟨j, y, hS478⟩ := aO
 refine obl rfl ?_
 have hi481 : e.typ.toNat < d.types.length := bo
 exact zz (k := 1) (i := e.typ) oR pT (ae 4 dc) K.sl (ae 6 dc) ⟨by omega, by omega⟩ dR
 obtain ⟨g, z, hS482⟩ := aO
 refine obl rfl ?_
 have hi485 : e.typ.toNat < d.types.length := bo
 exact zz (k := 1) (i := e.typ) oR pT (ae 4 dc) K.sl (ae 6 dc) ⟨by omega, by omega⟩ dR
 obtain ⟨j, g, y, z, hS486⟩ := aO
 refine obl rfl ?_
 have hi489 : e.typ.toNat < d.types.length := bo
 exact zz (k := 1) (i := e.typ) oR pT (ae 4 dc) K.sl (ae 6 dc) ⟨by omega, by omega⟩ dR
 intro ju vals w491 hm aP aQ
 have bP : ju ∈ [0, 1, 2, 3] := hm
 simp only [List.mem_cons, List.not_mem_nil, or_false] at bP
 rcases bP with rfl | rfl | rfl | rfl
 have hn : Sep _ _ _ _ := aP
 refine obl rfl ?_
 have cZ : e.typ.toNat < d.types.length := bo
 obtain ⟨dO, cO, hoke497⟩ := K.typD cZ
 have hsm499 : ((d.types.getD e.typ.toNat default).fields).length * 48 ≤ 140737488355328 := cO.small
 have dP := hn.cells dO (K.foot (ne_of_lt cZ))
 exact zf (k := 1) rT pT rfl (aQ 7 dc) dP dR
 obtain ⟨j, y, ho⟩ := aP
 refine obl rfl ?_
 have da : e.typ.toNat < d.types.length := bo
 obtain ⟨dQ, cP, hoke503⟩ := K.typD da
 have hsm505 : ((d.types.getD e.typ.toNat default).fields).length * 48 ≤ 140737488355328 := cP.small
 have dS := ho.cells dQ (K.foot (ne_of_lt da))
 exact zf (k := 1) rT pT rfl (aQ 7 dc) dS dR
 obtain ⟨g, z, hp⟩ := aP
 refine obl rfl ?_
 have db : e.typ.toNat < d.types.length := bo
 obtain ⟨dU, cQ, hoke509⟩ := K.typD db
 have hsm511 : ((d.types.getD e.typ.toNat default).fields).length * 48 ≤ 140737488355328 := cQ.small
 have dV := hp.cells dU (K.foot (ne_of_lt db))
 exact zf (k := 1) rT pT rfl (aQ 7 dc) dV dR
 obtain ⟨j, g, y, z, hq⟩ := aP
 refine obl rfl ?_
 have dd : e.typ.toNat < d.types.length := bo
 obtain ⟨dW, cR, hoke515⟩ := K.typD dd
 have hsm517 : ((d.types.getD e.typ.toNat default).fields).length * 48 ≤ 140737488355328 := cR.small
 have dX := hq.cells dW (K.foot (ne_of_lt dd))
 exact zf (k := 1) rT pT rfl (aQ 7 dc) dX dR
 intro jv vals w525 hr ar au
 have bQ : jv ∈ [0, 1, 2, 3, 7] := hr
 simp only [List.mem_cons, List.not_mem_nil, or_false] at bQ
 rcases bQ with rfl | rfl | rfl | rfl | rfl
 have hs : Sep _ _ _ _ := ar
 exact obl rfl (lD (Iv (e.typ)) kT (au 9 dc) (zb (hs.b1) rfl) dR)
 obtain ⟨j, y, ht⟩ := ar
 exact obl rfl (lD (Iv (e.typ)) kT (au 9 dc) (zb (ht.b2) rfl) dR)
 obtain ⟨g, z, hu⟩ := ar
 exact obl rfl (lD (Iv (e.typ)) kT (au 9 dc) (zb (hu.b2) rfl) dR)
 obtain ⟨j, g, y, z, hw⟩ := ar
 exact obl rfl (lD (Iv (e.typ)) kT (au 9 dc) (zb (hw.b3) rfl) dR)
 obtain ⟨j, g, y, z, hx⟩ := ar
 exact obl rfl (lD (Iv (e.typ)) kT (au 9 dc) (zb (hx.b3) rfl) dR)
 intro jw vals w545 hy av aw
 have bR : jw ∈ [0, 1, 2, 3, 7] := hy
 simp only [List.mem_cons, List.not_mem_nil, or_false] at bR
 rcases bR with rfl | rfl | rfl | rfl | rfl
 have hz : Sep _ _ _ _ := av
 exact obl rfl (lD (Iv (e.agg)) kT (aw 11 dc) (zb (hz.b1) rfl) dR)
 obtain ⟨j, y, hA⟩ := av
 exact obl rfl (lD (Iv (e.agg)) kT (aw 11 dc) (zb (hA.b2) rfl) dR)
 obtain ⟨g, z, hB⟩ := av
 exact obl rfl (lD (Iv (e.agg)) kT (aw 11 dc) (zb (hB.b2) rfl) dR)
 obtain ⟨j, g, y, z, hC⟩ := av
 exact obl rfl (lD (Iv (e.agg)) kT (aw 11 dc) (zb (hC.b3) rfl) dR)
 obtain ⟨j, g, y, z, hD⟩ := av
 exact obl rfl (lD (Iv (e.agg)) kT (aw 11 dc) (zb (hD.b3) rfl) dR)
 intro jx vals w572 hE ax ay
 have bS : jx ∈ [0, 1, 2, 3, 7] := hE
 simp only [List.mem_cons, List.not_mem_nil, or_false] at bS
 rcases bS with rfl | rfl | rfl | rfl | rfl
 have hF : Sep _ _ _ _ := ax
 exact obl rfl (lD (Iv (e.field)) kT (ay 14 dc) (zb (hF.b1) rfl) dR)
 obtain ⟨j, y, hG⟩ := ax
 exact obl rfl (lD (Iv (e.field)) kT (ay 14 dc) (zb (hG.b2) rfl) dR)
 obtain ⟨g, z, hH⟩ := ax
 exact obl rfl (lD (Iv (e.field)) kT (ay 14 dc) (zb (hH.b2) rfl) dR)
 obtain ⟨j, g, y, z, hI⟩ := ax
 exact obl rfl (lD (Iv (e.field)) kT (ay 14 dc) (zb (hI.b3) rfl) dR)
 obtain ⟨j, g, y, z, hJ⟩ := ax
 exact obl rfl (lD (Iv (e.field)) kT (ay 14 dc) (zb (hJ.b3) rfl) dR)
 intro jy vals w594 hK de hA595
 have bT : jy ∈ [0, 2] := hK
 simp only [List.mem_cons, List.not_mem_nil, or_false] at bT
 rcases bT with rfl | rfl
 have hL : Sep _ _ _ _ := de
 refine obl rfl ((zr qY ?_))
 intro w601 j hM
 exact fun C Q D => ⟨(Exists.intro j (And.intro Q (hL.new hM))), trivial⟩
 obtain ⟨g, z, hO⟩ := de
 refine obl rfl ((zr qY ?_))
 intro w606 j hP
 exact fun C Q D => ⟨(Exists.intro j (Exists.intro g (And.intro Q (And.intro ((D 18 dc).trans z) ((hO.new hP).mv1))))), trivial⟩
 intro jz vals w610 hQ df hA611
 have bU : jz ∈ [0, 1] := hQ
 simp only [List.mem_cons, List.not_mem_nil, or_false] at bU
 rcases bU with rfl | rfl
 have hR : Sep _ _ _ _ := df
 refine obl rfl ((zr rY ?_))
 intro w617 g hS
 exact fun C Q D => ⟨(Exists.intro g (And.intro Q (hR.new hS))), trivial⟩
 obtain ⟨j, y, hU⟩ := df
 refine obl rfl ((zr rY ?_))
 intro w622 g hV
 exact fun C Q D => ⟨(Exists.intro j (Exists.intro g (And.intro ((D 17 dc).trans y) (And.intro Q (hU.new hV))))), trivial⟩
 intro jA vals w625 hW hX hY
 have bV : jA ∈ [3] := hW
 simp only [List.mem_cons, List.not_mem_nil, or_false] at bV
 subst bV
 obtain ⟨j, g, y, z, bA⟩ := hX
 refine obl rfl ?_
 have dg : e.typ.toNat < d.types.length := bo
 obtain ⟨dY, bc, hoke633⟩ := K.typD dg
 have hsm635 : ((d.types.getD e.typ.toNat default).fields).length * 48 ≤ 140737488355328 := bc.small
 have hcw636 := bA.cells dY (K.foot (ne_of_lt dg))
 refine (zp (v := .agg jR.toArray) (c' := jR.toArray) pT y (hY 8 dc) (bA.b1) (zW ⟨bc.sl.one, trivial⟩) yqc rfl ?_)
 intro w631 hZ
 exact fun C Q D => ⟨(Exists.intro j (Exists.intro g (And.intro ((D 17 dc).trans y) (And.intro ((D 18 dc).trans z) (bA.pt1 hZ))))), trivial⟩
 intro jB vals w639 ia ib ic
 have bW : jB ∈ [7] := ia
 simp only [List.mem_cons, List.not_mem_nil, or_false] at bW
 subst bW
 obtain ⟨j, g, y, z, dh⟩ := ib
 refine obl rfl ((zp (v := .agg #[Iv (e.typ), Iv (e.agg), Iv (e.field)]) (c' := #[Iv (e.typ), Iv (e.agg), Iv (e.field)]) pR z (ic 16 dc) (dh.b0) (zW ⟨rfl, rfl, rfl, trivial⟩) yqc rfl ?_))
 intro w645 id
 exact fun C Q D => ⟨(Exists.intro j (Exists.intro g (And.intro ((D 17 dc).trans y) (And.intro ((D 18 dc).trans z) (dh.pt0 id))))), trivial⟩
 intro vals w648 ie hA650
 obtain ⟨j, g, y, z, di⟩ := ie
 refine zT (kv := [(0, Ix b 0), (1, .agg (e.cells ve0).toArray), (3, Ix s 0), (4, .bool false), (5, Ix I 0), (25, .bool false), (6, Ix j 0), (7, Ix g 0)]) ⟨rfl, rfl, rfl, rfl, rfl, rfl, (by exact y), (by exact z), trivial⟩ (fun ρw648 => (zd (za (za ?_))))
 have dj : e.typ.toNat < d.types.length := bo
 obtain ⟨dZ, V, aG⟩ := K.typD dj
 have hsm654 : ((d.types.getD e.typ.toNat default).fields).length * 48 ≤ 140737488355328 := V.small
 have hcw655 := di.cells dZ (K.foot (ne_of_lt dj))
 obtain ⟨m, ea, ig⟩ := (di.mv6).mapoTake (Iz) bi
 let ka := RwV m (zX bi M)
 have dk : Sep _ _ (ka :: _) _ := Jp (ig.mv1) ea
 have dl := dk.r0
 have hr662s : _ * 96 ≤ _ := dl.2
 have hdl9 := KR bi M
 refine WD4 (WF [fun vals B => Sep N p (ka :: (Md1 R M e m) :: (BkP g e) :: (BkT j d e p l) :: jU :: bG :: (BkV b l O T P R) :: jV :: (RwI ve0 e.deps) :: aj) B]) (AF [Vl 0 (Ix b 0), Vl 1 (Ix b 0), Vl 2 (Ix b 4), Vl 3 (.map (some R)), Vl 4 (.agg #[Iv (e.typ), Iv (e.agg), Iv (e.field)]), Vl 5 (m), Vl 6 (Iw ((zX bi M).length)), Vl 7 (Iv 0)]) [[], [0], [0, 1], [0, 1, 2], [], (rg 5), (rg 6), []] [] [(0, 0), (0, 0), (0, 0), (0, 0), (0, 0), (0, 0), (0, 0), (0, 0)] dk ⟨fun _ _ _ _ _ _ _ => obl rfl (mV (Ix b 0) dR), fun _ _ _ _ _ _ ih => obl rfl (zx (b := b) (o := 0) (ih 0 dc) dR), fun _ _ _ _ _ _ ii => obl rfl (Ke (ii 1 dc) dR), ob1 0 fun _ _ (ij : Sep _ _ _ _) ik => obl rfl (lD (.map (some R)) vR (ik 2 dc) (zb (ij.b6) rfl) dR), ob1 0 fun _ _ (il : Sep _ _ _ _) _ => obl rfl (zf (k := 3) wR pR rfl rfl (CellsAt.all (il.b2)) dR), ob1 0 fun _ _ (im : Sep _ _ _ _) dm => obl rfl (Uy im (i := 1) rfl K3 sY tY (dm 3 dc) (dm 4 dc) dR), ob1 0 fun _ _ _ io => obl rfl (zL (n := (zX bi M).length) oT (io 5 dc) dl.1 dR), fun _ _ _ _ _ _ _ => obl rfl (mV (Iv 0) dR), trivial⟩ ?_
 intro vals Y ip bB
 have iq : Sep _ _ _ _ := ip
 have jC := bB 5 dc
 have jD := bB 6 dc
 have jE := bB 7 dc
 refine zT (kv := [(0, Ix b 0), (1, .agg (e.cells ve0).toArray), (3, Ix s 0), (4, .bool false), (5, Ix I 0), (25, .bool false), (6, Ix j 0), (7, Ix g 0), (49, m), (50, Iw ((zX bi M).length)), (51, Iv 0)]) ⟨rfl, rfl, rfl, rfl, rfl, rfl, rfl, rfl, (by exact jC), (by exact jD), (by exact jE), trivial⟩ (fun ρw779 => (zd (zw ?_)))
 obtain ⟨bd, ir, az, it, dp⟩ := iq.lend
 have aA := RowE.rd ir
 have hrd792s : _ * 96 ≤ _ := aA.small
 have dq := it.s8_bcdefhag
 generalize dr : ((Md1 R M e m) :: (MapO yI E1 P (zq d M)) :: aj) = bC at dq
 refine yh (fun mq σ B => ∃ (k : Nat) (ρ : Env), mq = (zX (e.typ, e.agg, e.field) M).length - k ∧ σ = ye ρ [(0, Ix b 0), (3, Ix s 0), (5, Ix I 0), (6, Ix j 0), (7, Ix g 0), (49, m), (50, Iw ((zX (e.typ, e.agg, e.field) M).length)), (51, Iw k)] ∧ (k ≤ (zX (e.typ, e.agg, e.field) M).length) ∧ (∀ i, i < k → xn ((d.types.getD e.typ.toNat default).fields.getD e.field.toNat default) ((zX (e.typ, e.agg, e.field) M).getD i default) e = false) ∧ Sep bd Y ((BkP g e) :: (BkT j d e p l) :: (Blk I #[Iv 0, Iv 0] 38) :: (Blk s (e.cells ve0).toArray 41) :: (BkV b l O T P R) :: (RwI ve0 e.deps) :: bC) B) ⟨0, _, rfl, sSf, Nat.zero_le _, (fun i h => absurd h (Nat.not_lt_zero i)), dq⟩ ?_
 rintro m797 σ798 jF ⟨k, ρl1, rfl, rfl, hkk, hno, aB⟩
 let jS := zP Y (sb m) (so m + k * 10 + 3)
 let jT := ((zX bi M).getD k default).cells jS
 refine za (R0 fun _ => st (zF (k := .i64) (a := ((k : Nat) : Int)) (b := (((zX bi M).length : Nat) : Int)) rfl rfl (zd (za ?_))))
 cases aR : decide (((k : Nat) : Int) < (((zX (e.typ, e.agg, e.field) M).length : Nat) : Int))
 have aR := fD aR
 try simp +zetaDelta only at aB
 rw [← dr] at aB
 have iu := dp _ _ aB
 have hfree := QQ hfz (fun i hi => hno i om)
 refine zg rfl (yi (yb (za ?_)))
 obtain ⟨vs803, eb, iv⟩ := (iu.mv8).mapoTake VG (e.typ, e.agg)
 obtain ⟨H, rfl, iw⟩ := Wb (iv.mv1) eb
 let jY := Ms1 P d M (e.typ, e.agg) H
 have bX : Sep N p ((RwC H (stL d (e.typ, e.agg) M)) :: jY :: ka :: (BkP g e) :: (BkT j d e p l) :: jU :: bG :: (BkV b l O T P R) :: (RwI ve0 e.deps) :: (Md1 R M e m) :: aj) jF := iw
 have ds := bX.r0
 have hr809s : _ * 32 ≤ _ := ds.2
 have dt := bX.s10_abdeghjcif
 generalize du : ((Md1 R M e m) :: (RwV m (zX (e.typ, e.agg, e.field) M)) :: (RwI ve0 e.deps) :: (Blk I #[Iv 0, Iv 0] 38) :: aj) = bD at dt
 have hve9 := Yo (e.typ, e.agg) M
 refine WD4 ((fun TT J => WF [fun vals B => Sep N p (J :: TT) B, fun vals B => ∃ (u : Nat), (vals 10 = (Ix u 0 : Value)) ∧ Sep N p ((Blk u #[Iv 0, (Iz)] 47) :: J :: TT) B, fun vals B => ∃ (u : Nat), (vals 10 = (Ix u 0 : Value)) ∧ Sep N p ((BkS u M (e.typ, e.agg) H) :: J :: TT) B]) (jY :: (BkP g e) :: (BkT j d e p l) :: bG :: (BkV b l O T P R) :: bD) (RwC H (stL d (e.typ, e.agg) M))) (AF [Vl 0 (Ix b 0), Vl 1 (Ix b 0), Vl 2 (Ix b 3), Vl 3 (.map (some P)), Vl 4 (Ix g 0), Vl 5 (.agg #[Iv (e.typ), Iv (e.agg)]), Vl 6 (.tuple #[.agg #[Iw (zU (e.typ, e.agg) M), H], .bool (((zq d M) (e.typ, e.agg)).isSome)]), Vl 7 (.tuple #[.agg #[Iw (zU (e.typ, e.agg) M), H], .bool (((zq d M) (e.typ, e.agg)).isSome)]), Vl 8 (.agg #[Iw (zU (e.typ, e.agg) M), H]), Vl 9 (.bool (((zq d M) (e.typ, e.agg)).isSome)), fun _ => True, fun _ => True, Vl 12 (.bool (((zq d M) (e.typ, e.agg)).isSome))]) [[], [0], [0, 1], [0, 1, 2], [], [4], (rg 6), (rg 7), (rg 8), (rg 8), [], [0, 1, 2, 3, 4, 5, 6, 7, 8, 10], (rg 12)] [10, 11] [(0, 1), (0, 1), (0, 1), (0, 1), (0, 1), (0, 1), (0, 1), (0, 1), (0, 1), (0, 2), (0, 0), (1, 1), (2, 2)] dt ⟨fun _ _ _ _ _ _ _ => obl rfl (mV (Ix b 0) dR), fun _ _ _ _ _ _ ix => obl rfl (zx (b := b) (o := 0) (ix 0 dc) dR), fun _ _ _ _ _ _ iy => obl rfl (Ua (iy 1 dc) dR), ?_, fun _ _ _ _ _ _ _ => obl rfl (UU rfl dR), ?_, ?_, fun _ _ _ _ _ _ iz => obl rfl (ya (v := .tuple #[.agg #[Iw (zU (e.typ, e.agg) M), H], .bool (((zq d M) (e.typ, e.agg)).isSome)]) (iz 6 dc) dR), fun _ _ _ _ _ _ iA => obl rfl (zj (vs := [.agg #[Iw (zU (e.typ, e.agg) M), H], .bool (((zq d M) (e.typ, e.agg)).isSome)]) (i := 0) (v := .agg #[Iw (zU (e.typ, e.agg) M), H]) (iA 7 dc) rfl dR), fun _ _ _ _ _ _ iB => obl rfl (zj (vs := [.agg #[Iw (zU (e.typ, e.agg) M), H], .bool (((zq d M) (e.typ, e.agg)).isSome)]) (i := 1) (v := .bool (((zq d M) (e.typ, e.agg)).isSome)) (iB 7 dc) rfl dR), ?_, ?_, fun _ _ _ _ _ _ iC => obl rfl (zR (v := .bool (((zq d M) (e.typ, e.agg)).isSome)) (iC 9 dc) dR), trivial⟩ ?_
 refine fun bE _ _ jG jH dv dw => ?_
 have hkk : bE = 0 ∨ bE = 1 := by have h1 : 0 ≤ bE := jG; have h2 : bE ≤ 1 := jH; omega
 rcases hkk with rfl | rfl
 have iD : Sep _ _ _ _ := dv
 exact obl rfl (lD (.map (some P)) lR (dw 2 dc) (zb (iD.b5) rfl) dR)
 obtain ⟨u, ah, iE⟩ := dv
 exact obl rfl (lD (.map (some P)) lR (dw 2 dc) (zb (iE.b6) rfl) dR)
 refine fun bH _ _ jI jJ dx dy => ?_
 have hkk : bH = 0 ∨ bH = 1 := by have h1 : 0 ≤ bH := jI; have h2 : bH ≤ 1 := jJ; omega
 rcases hkk with rfl | rfl
 have iF : Sep _ _ _ _ := dx
 exact obl rfl (zf (k := 2) (cs := [Iv (e.typ), Iv (e.agg)]) qR rR rfl (dy 4 dc) (CellsAt.sub (CellsAt.all (iF.b2)) 0 (cs2 := [Iv (e.typ), Iv (e.agg)]) rfl) dR)
 obtain ⟨u, ah, iG⟩ := dx
 exact obl rfl (zf (k := 2) (cs := [Iv (e.typ), Iv (e.agg)]) qR rR rfl (dy 4 dc) (CellsAt.sub (CellsAt.all (iG.b3)) 0 (cs2 := [Iv (e.typ), Iv (e.agg)]) rfl) dR)
 refine fun bI _ _ jK jL dz aT => ?_
 have hkk : bI = 0 ∨ bI = 1 := by have h1 : 0 ≤ bI := jK; have h2 : bI ≤ 1 := jL; omega
 rcases hkk with rfl | rfl
 have iH : Sep _ _ _ _ := dz
 exact obl rfl (Zt iH (i := 1) rfl K2 sR tT (aT 3 dc) (aT 5 dc) dR)
 obtain ⟨u, ah, iI⟩ := dz
 exact obl rfl (Zt iI (i := 2) rfl K2 sR tT (aT 3 dc) (aT 5 dc) dR)
 refine ob1 0 fun _ _ (iJ : Sep _ _ _ _) _ => (obl rfl ((zr tT ?_)))
 intro w894 u iK
 exact fun C Q D => ⟨(Exists.intro u (And.intro Q (iJ.new iK))), trivial⟩
 refine ob1 1 fun _ _ iL iM => ?_
 obtain ⟨u, ah, dB⟩ := iL
 refine obl rfl ((zp (v := .agg #[Iw (zU (e.typ, e.agg) M), H]) (c' := #[Iw (zU (e.typ, e.agg) M), H]) mR ah (iM 8 dc) (dB.b0) (zW ⟨rfl, ds.1.one, trivial⟩) yqc rfl ?_))
 intro w905 iN
 exact fun C Q D => ⟨(Exists.intro u (And.intro ((D 10 dc).trans ah) (dB.pt0 iN))), trivial⟩
 intro vals w1001 ec ed
 obtain ⟨u, ah, be⟩ := ec
 have iO := ed 12 dc
 refine zT (kv := [(0, Ix b 0), (3, Ix s 0), (5, Ix I 0), (6, Ix j 0), (7, Ix g 0), (49, m), (50, Iw ((zX bi M).length)), (51, Iw k), (52, .bool false), (10, Ix u 0), (11, .bool (((zq d M) (e.typ, e.agg)).isSome))]) ⟨rfl, rfl, rfl, rfl, rfl, rfl, rfl, rfl, rfl, (by exact ah), (by exact iO), trivial⟩ (fun ρw1001 => (zd (za (za (R0 fun _ => st (mV (.bool (((zq d M) (e.typ, e.agg)).isSome)) (st (yH (a := ((zq d M) (e.typ, e.agg)).isSome) rfl (zd ?_)))))))))
 refine US (fun σ B => ∃ (U : Value) (ρ : Env), σ = ye ρ [(0, Ix b 0), (3, Ix s 0), (5, Ix I 0), (6, Ix j 0), (7, Ix g 0), (10, Ix u 0)] ∧ (U = H ∨ zU (e.typ, e.agg) M = 0) ∧ Sep N p ((BkS u M (e.typ, e.agg) U) :: (RwC U (clL d M e)) :: jY :: (BkP g e) :: (BkT j d e p l) :: bG :: (BkV b l O T P R) :: bD) B) ?_ ?_
 cases aC : !(((zq d M) (e.typ, e.agg)).isSome)
 try simp only [ze] at aC
 refine zg rfl (zl ?_)
 have bf := be.mv1
 try simp +zetaDelta only at bf
 rw [show stL d (e.typ, e.agg) M = (zY d (e.typ, e.agg) M) from if_neg (Jm aC)] at bf
 exact ⟨rfl, H, _, xa ⟨(show _ = (Ix b 0 : Value) from rfl), (show _ = (Ix s 0 : Value) from rfl), (show _ = (Ix I 0 : Value) from rfl), (show _ = (Ix j 0 : Value) from rfl), (show _ = (Ix g 0 : Value) from rfl), (show _ = (Ix u 0 : Value) from rfl), trivial⟩, (.inl rfl), (bf.mv1)⟩
 try simp only [ze] at aC
 refine zh rfl (R0 fun _ => st (zf (k := 1) rT pT rfl rfl (CellsAt.all (be.b4)) (st (cL Tryz.call13 (zaL (t := (d.types.getD e.typ.toNat default)) V aG be) ?_))))
 rintro bJ w1010 ⟨_, rfl, bg⟩
 have bY := bg.r0
 have hr1012s : _ * 32 ≤ _ := bY.2
 refine st (xV rfl (stn (yn (v := bJ) (c := [Iw (zU (e.typ, e.agg) M), H]) (c' := [Iw (zU (e.typ, e.agg) M), bJ]) Tryz.sizeOf45 rfl rfl (bg.b1) bY.1.one rfl rfl ?_)))
 intro w1013 ee
 have bh := bg.pt1 ee
 refine zd ?_
 have jl : zU (e.typ, e.agg) M = 0 := KV aC
 try simp +zetaDelta only at bh
 rw [show (List.replicate (d.types.getD e.typ.toNat default).fields.length (⟨0, []⟩ : Cel)) = (zY d (e.typ, e.agg) M) from (Kk (d := d) jl).symm] at bh
 exact ⟨rfl, bJ, _, xa ⟨(show _ = (Ix b 0 : Value) from rfl), (show _ = (Ix s 0 : Value) from rfl), (show _ = (Ix I 0 : Value) from rfl), (show _ = (Ix j 0 : Value) from rfl), (show _ = (Ix g 0 : Value) from rfl), (show _ = (Ix u 0 : Value) from rfl), trivial⟩, (.inr jl), (bh.s8_badefgh)⟩
 rintro _ w1017 ⟨U, ρj1, rfl, jM, ac⟩
 let kb := RwC U (clL d M e)
 let jW := BkS u M (e.typ, e.agg) U
 have ef := ac.r1
 have hr1019s : _ * 32 ≤ _ := ef.2
 refine za (za (R0 fun _ => st (zf (k := 1) rT pT rfl rfl (CellsAt.all (ac.b4)) (st (xV rfl (st (lD U uY rfl (zb (ac.b0) rfl) (st (xF rfl (st (lD (Iv (e.field)) kT rfl (zb (ac.b5) rfl) (st (xK rfl (st (lD (Iv (e.op)) kT rfl (zb (ac.b5) rfl) (st (Zn rfl (st (lD (Iv (e.arg)) kT rfl (zb (ac.b5) rfl) ?_)))))))))))))))))))
 obtain ⟨G1021, eg, eh, ei, ej⟩ := (ac.mv1).lend
 have bt := RowE.rd eg
 have hrd1027s : _ * 32 ≤ _ := bt.small
 refine st (cL Tryz.call31 (zaB (t := (d.types.getD e.typ.toNat default)) (c := (zY d (e.typ, e.agg) M)) (vc := U) (f := e.field) (op := e.op) (arg := e.arg) (RdS.base V eh) aG bt oe.field oe.op oe.arg ei ((hft.ask (hd.typ _ om) (hinv e.typ e.agg dM dN)))) ?_)
 rintro _ w1028 ⟨rfl, ek⟩
 have aD := ej _ _ ek
 refine st (yr (k := .i64) (a := yP (d.types.getD e.typ.toNat default) (zY d (e.typ, e.agg) M) e.field e.op e.arg) (b := 0) rfl rfl (zd ?_))
 cases af : !decide ((yP (d.types.getD e.typ.toNat default) (zY d (e.typ, e.agg) M) e.field e.op e.arg) = 0)
 have af := yp af
 have hT : yf d M e = (false, 0, 0) := hfree.trans (if_neg (not_not_intro af))
 refine zg rfl (zl (za ?_))
 refine WD4 ((fun TT J ab ad => WF [fun vals B => Sep N p (J :: ab :: ad :: TT) B, fun vals B => ∃ (A : Value), (vals 18 = (A : Value)) ∧ Sep N p (J :: (RwC A (doL (d.types.getD e.typ.toNat default) (clL d M e) e.field e.op e.arg)) :: ab :: ad :: TT) B, fun vals B => ∃ (A : Value), (vals 18 = (A : Value)) ∧ Sep N p (hv :: J :: ab :: TT) B]) ((BkP g e) :: (BkT j d e p l) :: bG :: (BkV b l O T P R) :: bD) kb jW jY) (AF [Vl 0 (Ix b 0), Vl 1 (Ix b 0), Vl 2 (Ix b 3), Vl 3 (.map (some P)), Vl 4 (Ix g 0), Vl 5 (.agg #[Iv (e.typ), Iv (e.agg)]), Vl 6 (Ix u 0), Vl 7 (Iw (zU (e.typ, e.agg) M)), Vl 8 (Iw (zU (e.typ, e.agg) M + 1)), Vl 9 (.agg jR.toArray), Vl 10 (Ix u 1), Vl 11 (U), Vl 12 (Ix s 6), Vl 13 (Iv (e.field)), Vl 14 (Ix s 7), Vl 15 (Iv (e.op)), Vl 16 (Ix s 8), Vl 17 (Iv (e.arg)), fun _ => True, fun vals => ∀ (A : Value), vals 18 = (A : Value) → vals 19 = (.agg #[Iw (zU (e.typ, e.agg) M + 1), A] : Value), fun _ => True]) [[], [0], [0, 1], [0, 1, 2], [], [4], [], [6], [6, 7], [], [], [10], [], [12], [], [14], [], [16], [9, 10, 11, 12, 13, 14, 15, 16, 17], [6, 7, 8, 9, 10, 11, 12, 13, 14, 15, 16, 17, 18], (rg 20)] [18, 20] [(0, 1), (0, 1), (0, 1), (0, 1), (0, 1), (0, 1), (0, 1), (0, 1), (0, 1), (0, 0), (0, 0), (0, 0), (0, 0), (0, 0), (0, 0), (0, 0), (0, 0), (0, 0), (0, 0), (1, 1), (1, 1)] aD ⟨fun _ _ _ _ _ _ _ => obl rfl (mV (Ix b 0) dR), fun _ _ _ _ _ _ el => obl rfl (zx (b := b) (o := 0) (el 0 dc) dR), fun _ _ _ _ _ _ em => obl rfl (Ua (em 1 dc) dR), ?_, fun _ _ _ _ _ _ _ => obl rfl (UU rfl dR), ?_, fun _ _ _ _ _ _ _ => obl rfl (WK rfl dR), ?_, ?_, ob1 0 fun _ _ (en : Sep _ _ _ _) _ => obl rfl (zf (k := 1) rT pT rfl rfl (CellsAt.all (en.b4)) dR), fun _ _ _ _ _ _ _ => obl rfl (xV rfl dR), ob1 0 fun _ _ (eo : Sep _ _ _ _) er => obl rfl (lD U uY (er 10 dc) (zb (eo.b1) rfl) dR), fun _ _ _ _ _ _ _ => obl rfl (xF rfl dR), ob1 0 fun _ _ (es : Sep _ _ _ _) et => obl rfl (lD (Iv (e.field)) kT (et 12 dc) (zb (es.b5) rfl) dR), fun _ _ _ _ _ _ _ => obl rfl (xK rfl dR), ob1 0 fun _ _ (eu : Sep _ _ _ _) ew => obl rfl (lD (Iv (e.op)) kT (ew 14 dc) (zb (eu.b5) rfl) dR), fun _ _ _ _ _ _ _ => obl rfl (Zn rfl dR), ob1 0 fun _ _ (ex : Sep _ _ _ _) ey => obl rfl (lD (Iv (e.arg)) kT (ey 16 dc) (zb (ex.b5) rfl) dR), ?_, ?_, ?_, trivial⟩ ?_ (hlocA := yW ⟨dA, dA, dA, dA, dA, dA, dA, dA, dA, dA, dA, dA, dA, dA, dA, dA, dA, dA, dT, fun vals C Q h => fun A ai => (Q 19 (.inl rfl)).trans (h A ((Q 18 (.inr dc)).symm.trans ai)), dT, trivial⟩)
 refine fun aU _ _ iP iQ bZ ca => ?_
 have hkk : aU = 0 ∨ aU = 1 := by have h1 : 0 ≤ aU := iP; have h2 : aU ≤ 1 := iQ; omega
 rcases hkk with rfl | rfl
 have ez : Sep _ _ _ _ := bZ
 exact obl rfl (lD (.map (some P)) lR (ca 2 dc) (zb (ez.b6) rfl) dR)
 obtain ⟨A, Z, eA⟩ := bZ
 exact obl rfl (lD (.map (some P)) lR (ca 2 dc) (zb (eA.b7) rfl) dR)
 refine fun aV _ _ iR iS cb cc => ?_
 have hkk : aV = 0 ∨ aV = 1 := by have h1 : 0 ≤ aV := iR; have h2 : aV ≤ 1 := iS; omega
 rcases hkk with rfl | rfl
 have eB : Sep _ _ _ _ := cb
 exact obl rfl (zf (k := 2) (cs := [Iv (e.typ), Iv (e.agg)]) qR rR rfl (cc 4 dc) (CellsAt.sub (CellsAt.all (eB.b3)) 0 (cs2 := [Iv (e.typ), Iv (e.agg)]) rfl) dR)
 obtain ⟨A, Z, eC⟩ := cb
 exact obl rfl (zf (k := 2) (cs := [Iv (e.typ), Iv (e.agg)]) qR rR rfl (cc 4 dc) (CellsAt.sub (CellsAt.all (eC.b4)) 0 (cs2 := [Iv (e.typ), Iv (e.agg)]) rfl) dR)
 refine fun aW _ _ iT iU cd ce => ?_
 have hkk : aW = 0 ∨ aW = 1 := by have h1 : 0 ≤ aW := iT; have h2 : aW ≤ 1 := iU; omega
 rcases hkk with rfl | rfl
 have eD : Sep _ _ _ _ := cd
 exact obl rfl (lD (Iw (zU (e.typ, e.agg) M)) kT (ce 6 dc) (zb (eD.b1) rfl) dR)
 obtain ⟨A, Z, eE⟩ := cd
 exact obl rfl (lD (Iw (zU (e.typ, e.agg) M)) kT (ce 6 dc) (zb (eE.b2) rfl) dR)
 refine fun aX _ _ iV iW cf cg => ?_
 have hkk : aX = 0 ∨ aX = 1 := by have h1 : 0 ≤ aX := iV; have h2 : aX ≤ 1 := iW; omega
 rcases hkk with rfl | rfl
 have hS1278 : Sep _ _ _ _ := cf
 refine obl rfl ?_
 have eF : InR ((zU (e.typ, e.agg) M + 1 : Nat) : Int) := bo
 exact zV (r := ((zU (e.typ, e.agg) M + 1 : Nat) : Int)) (k := .i64) (a := ((zU (e.typ, e.agg) M : Nat) : Int)) (b := 1) (cg 7 (by decide)) rfl (by rw [show (((zU (e.typ, e.agg) M : Nat) : Int) + 1 : Int) = ((zU (e.typ, e.agg) M + 1 : Nat) : Int) from bo]; exact zJ eF) dR
 obtain ⟨A, Z, hS1281⟩ := cf
 refine obl rfl ?_
 have eG : InR ((zU (e.typ, e.agg) M + 1 : Nat) : Int) := bo
 exact zV (r := ((zU (e.typ, e.agg) M + 1 : Nat) : Int)) (k := .i64) (a := ((zU (e.typ, e.agg) M : Nat) : Int)) (b := 1) (cg 7 (by decide)) rfl (by rw [show (((zU (e.typ, e.agg) M : Nat) : Int) + 1 : Int) = ((zU (e.typ, e.agg) M + 1 : Nat) : Int) from bo]; exact zJ eG) dR
 refine ob1 0 fun vals _ (eH : Sep _ _ _ _) ak => (obl rfl ?_)
 obtain ⟨G1172, eI, eJ, eK, eL⟩ := eH.lend
 have bu := RowE.rd eI
 have hrd1178s : _ * 32 ≤ _ := bu.small
 refine (zB (f := 18) (vals := [.agg ((d.types.getD e.typ.toNat default).cells (zP p (sb l) (so l + e.typ.toNat * 1 + 0))).toArray, U, Iv (e.field), Iv (e.op), Iv (e.arg)]) (cap := []) rfl (yE ⟨(ak 9 dc), (ak 11 dc), (ak 13 dc), (ak 15 dc), (ak 17 dc), trivial⟩) Tryz.call18 (D_Do (t := (d.types.getD e.typ.toNat default)) (c := (zY d (e.typ, e.agg) M)) (vc := U) (f := e.field) (op := e.op) (arg := e.arg) (RdS.base V eJ) aG bu oe.field oe.op oe.arg eK ((hft.ask (hd.typ _ om) (hinv e.typ e.agg dM dN))) ((fun _ => zba (hinv e.typ e.agg dM dN) hfl hfh))) ?_)
 rintro A w1180 ⟨_, rfl, ch⟩
 have eM := ch.r0
 have hr1182s : _ * 32 ≤ _ := eM.2
 have eN := eL _ _ ch
 exact fun C Q D => ⟨(Exists.intro A (And.intro Q eN)), trivial⟩
 refine ob1 1 fun _ _ eO eP => ?_
 obtain ⟨A, Z, eQ⟩ := eO
 refine obl rfl ?_
 have ci := eQ.r1
 have hr1356s : _ * 32 ≤ _ := ci.2
 refine zI (parts' := [(0, Iw (zU (e.typ, e.agg) M + 1)), (1, A)]) (v := .agg #[Iw (zU (e.typ, e.agg) M + 1), A]) (Zq ⟨rfl, (eP 8 (by decide)), rfl, Z, trivial⟩) (by obtain ⟨_, _, eR, _⟩ := ci.1; rw [show A = Value.slice _ _ _ from eR]; simp [Instr.build, Instr.fill, Ev.cells, go_sem, Mv.cells, Fld.cells, Typ.cells, Prj.cells, Dcl.cells, Cel.cells, AskR.cells, CelS.cells, Ev.cells, Ent.cells, Sta.cells]) (fun C Q D => ⟨rfl, ?_⟩)
 intro v1179q ai
 rw [D 18 (by decide)] at ai; cases Z.symm.trans ai
 exact Q
 refine ob1 1 fun vals _ eS bj => ?_
 obtain ⟨A, Z, eT⟩ := eS
 have iX : vals 19 = (.agg #[Iw (zU (e.typ, e.agg) M + 1), A] : Value) := bj 19 dc A Z
 refine obl rfl ?_
 have eU : Sep _ _ ((E1 (.agg #[Iw (zU (e.typ, e.agg) M + 1), A]) (zU (e.typ, e.agg) M + 1, (doL (d.types.getD e.typ.toNat default) (clL d M e) e.field e.op e.arg))) :: _) _ := QA (n := zU (e.typ, e.agg) M + 1) (eT.mv1)
 refine (ZP (eU.mv3) K2 sR (bj 3 dc) (bj 5 dc) iX ?_)
 intro iY eV
 have dD : Sep N p (hv :: kb :: jW :: (BkP g e) :: (BkT j d e p l) :: bG :: (BkV b l O T P R) :: bD) iY := eV
 exact fun C Q D => ⟨(Exists.intro A (And.intro ((D 18 dc).trans Z) dD)), trivial⟩
 intro vals w1357 eW hA1359
 obtain ⟨A, Z, bk⟩ := eW
 refine zT (kv := [(0, Ix b 0), (3, Ix s 0), (5, Ix I 0), (6, Ix j 0), (7, Ix g 0), (10, Ix u 0), (82, .agg jR.toArray), (83, Ix u 1), (84, U), (85, Ix s 6), (86, Iv (e.field)), (87, Ix s 7), (88, Iv (e.op)), (89, Ix s 8), (90, Iv (e.arg)), (91, Iv (yP (d.types.getD e.typ.toNat default) (zY d (e.typ, e.agg) M) e.field e.op e.arg)), (92, .bool false)]) sEv (fun ρw1357 => (zd (za ?_)))
 try simp +zetaDelta only at bk
 rw [← du] at bk
 refine WD4 ((fun TT J ab ad aH aI cj ck jm eX eY => WF [fun vals B => Sep N p (J :: ab :: ad :: aH :: aI :: cj :: ck :: jm :: eX :: eY :: TT) B, fun vals B => ∃ (F : Nat), (vals 6 = ((Iy F 1 1) : Value)) ∧ Sep N p ((Blk F (e.cells ve0).toArray 41) :: J :: ab :: ad :: aH :: aI :: cj :: ck :: jm :: eX :: eY :: TT) B, fun vals B => ∃ (F : Nat) (q : Int), (vals 6 = ((Iy F 1 1) : Value)) ∧ (vals 7 = (.tuple #[m, Iv q] : Value)) ∧ Sep N p ((Wi xA E2 R (yw M) bi q) :: (Blk F (e.cells ve0).toArray 41) :: J :: ab :: ad :: aH :: aI :: cj :: ck :: eX :: eY :: TT) B, fun vals B => ∃ (F : Nat) (q : Int) (aa : Value), (vals 6 = ((Iy F 1 1) : Value)) ∧ (vals 7 = (.tuple #[m, Iv q] : Value)) ∧ (vals 9 = (aa : Value)) ∧ Sep N p ((RwV aa ((zX bi M) ++ [e])) :: (Wi xA E2 R (yw M) bi q) :: J :: ab :: ad :: aH :: aI :: cj :: ck :: TT) B, fun vals B => ∃ (F : Nat) (q : Int) (aa : Value), (vals 6 = ((Iy F 1 1) : Value)) ∧ (vals 7 = (.tuple #[m, Iv q] : Value)) ∧ (vals 9 = (aa : Value)) ∧ Sep N p ((MapO xA E2 R (Zr (yw M) bi ((zX bi M) ++ [e]))) :: J :: ab :: ad :: aH :: aI :: cj :: ck :: TT) B]) (jU :: aj) hv kb jW (BkP g e) (BkT j d e p l) bG (BkV b l O T P R) (Md1 R M e m) ka (RwI ve0 e.deps)) (AF [Vl 0 (Ix b 0), Vl 1 (Ix b 0), Vl 2 (Ix b 4), Vl 3 (.map (some R)), Vl 4 (.agg #[Iv (e.typ), Iv (e.agg), Iv (e.field)]), Vl 5 (.agg (e.cells ve0).toArray), fun _ => True, fun _ => True, Vl 8 (m), fun _ => True, fun vals => ∀ (q : Int), vals 7 = (.tuple #[m, Iv q] : Value) → vals 10 = (Iv q : Value), fun _ => True]) [[], [0], [0, 1], [0, 1, 2], [], [], [5], (rg 7), (rg 8), (rg 9), (rg 8), (rg 11)] [6, 7, 9, 11] [(0, 1), (0, 1), (0, 1), (0, 1), (0, 1), (0, 0), (0, 0), (1, 1), (2, 2), (2, 2), (2, 3), (3, 3)] bk ⟨fun _ _ _ _ _ _ _ => obl rfl (mV (Ix b 0) dR), fun _ _ _ _ _ _ eZ => obl rfl (zx (b := b) (o := 0) (eZ 0 dc) dR), fun _ _ _ _ _ _ fa => obl rfl (Ke (fa 1 dc) dR), ?_, ?_, ob1 0 fun _ _ (fb : Sep _ _ _ _) _ => obl rfl (zf (k := 10) qT lT rfl rfl (CellsAt.all (fb.b5)) dR), ?_, ?_, ?_, ?_, ?_, ?_, trivial⟩ ?_ (hlocA := yW ⟨dA, dA, dA, dA, dA, dA, dT, dT, dA, dT, fun vals C Q h => fun q ai => (Q 10 (.inl rfl)).trans (h q ((Q 7 (.inr dc)).symm.trans ai)), dT, trivial⟩)
 refine fun aY _ _ iZ ja cl cm => ?_
 have hkk : aY = 0 ∨ aY = 1 := by have h1 : 0 ≤ aY := iZ; have h2 : aY ≤ 1 := ja; omega
 rcases hkk with rfl | rfl
 have fc : Sep _ _ _ _ := cl
 exact obl rfl (lD (.map (some R)) vR (cm 2 dc) (zb (fc.b6) rfl) dR)
 obtain ⟨F, X, fd⟩ := cl
 exact obl rfl (lD (.map (some R)) vR (cm 2 dc) (zb (fd.b7) rfl) dR)
 refine fun aZ _ _ jb jc cn _ => ?_
 have hkk : aZ = 0 ∨ aZ = 1 := by have h1 : 0 ≤ aZ := jb; have h2 : aZ ≤ 1 := jc; omega
 rcases hkk with rfl | rfl
 have fe : Sep _ _ _ _ := cn
 exact obl rfl (zf (k := 3) wR pR rfl rfl (CellsAt.all (fe.b3)) dR)
 obtain ⟨F, X, ff⟩ := cn
 exact obl rfl (zf (k := 3) wR pR rfl rfl (CellsAt.all (ff.b4)) dR)
 refine ob1 0 fun _ _ (fg : Sep _ _ _ _) fh => (obl rfl ((zS (k := 10) (parts' := [(0, .agg (e.cells ve0).toArray)]) (c := (e.cells ve0).toArray) oT lT tR dc (Zq ⟨rfl, (fh 5 dc), trivial⟩) kr ?_)))
 intro w1413 F fi
 exact fun C Q D => ⟨(Exists.intro F (And.intro Q (fg.new fi))), trivial⟩
 refine ob1 1 fun _ _ fj co => ?_
 obtain ⟨F, X, fk⟩ := fj
 refine obl rfl ((WB (fk.mv8) K3 sY tY (co 3 dc) (co 4 dc) ?_))
 intro w1425 q fl
 exact fun C Q D => ⟨(Exists.intro F (Exists.intro q (And.intro ((D 6 dc).trans X) (And.intro Q fl)))), trivial⟩
 refine ob1 2 fun _ _ fm _ => ?_
 obtain ⟨F, q, X, S, hS1522⟩ := fm
 exact obl rfl (zj (vs := [m, Iv q]) (i := 0) (v := m) S rfl dR)
 refine ob1 2 fun _ _ fn fo => ?_
 obtain ⟨F, q, X, S, cp⟩ := fn
 refine obl rfl ?_
 have dE := cp.b1
 refine (xb (src := own) (bytes := 96) (x1 := e) (cp.s12_jkacdefghil) zbj (fo 8 (by decide)) X dE (fun _ _ hN => ⟨_, rfl, RowE.soft hN, oe⟩) yqb rfl ?_)
 intro aa w1445 cq
 have fp := cq.r0
 have hr1450s : _ * 96 ≤ _ := fp.2
 exact fun C Q D => ⟨(Exists.intro F (Exists.intro q (Exists.intro aa (And.intro ((D 6 dc).trans X) (And.intro ((D 7 dc).trans S) (And.intro Q cq)))))), trivial⟩
 refine fun ba _ _ jd je cr _ => ?_
 have hkk : ba = 2 ∨ ba = 3 := by have h1 : 2 ≤ ba := jd; have h2 : ba ≤ 3 := je; omega
 rcases hkk with rfl | rfl
 obtain ⟨F, q, X, S, hS1529⟩ := cr
 refine obl rfl (zj (vs := [m, Iv q]) (i := 1) (v := Iv q) S rfl (fun C Q D => ⟨rfl, ?_⟩))
 intro dG ai
 rw [D 7 (by decide)] at ai; cases S.symm.trans ai
 exact Q
 obtain ⟨F, q, aa, X, S, aE, hS1530⟩ := cr
 refine obl rfl (zj (vs := [m, Iv q]) (i := 1) (v := Iv q) S rfl (fun C Q D => ⟨rfl, ?_⟩))
 intro dG ai
 rw [D 7 (by decide)] at ai; cases S.symm.trans ai
 exact Q
 refine ob1 3 fun vals _ fq ct => ?_
 obtain ⟨F, q, aa, X, S, aE, fr⟩ := fq
 have jf : vals 10 = (Iv q : Value) := ct 10 dc q S
 refine obl rfl ((YZ (E := E2) (v' := aa) (x' := (zX bi M) ++ [e]) (fr.mv1) (ct 3 dc) jf aE ?_))
 intro w1468 fs
 exact fun C Q D => ⟨(Exists.intro F (Exists.intro q (Exists.intro aa (And.intro ((D 6 dc).trans X) (And.intro ((D 7 dc).trans S) (And.intro ((D 9 dc).trans aE) fs)))))), trivial⟩
 intro vals w1531 ft hA1533
 obtain ⟨F, q, aa, X, S, aE, fu⟩ := ft
 refine zT (kv := [(0, Ix b 0), (3, Ix s 0), (5, Ix I 0), (6, Ix j 0), (7, Ix g 0), (10, Ix u 0), (82, .agg jR.toArray), (83, Ix u 1), (84, U), (85, Ix s 6), (86, Iv (e.field)), (87, Ix s 7), (88, Iv (e.op)), (89, Ix s 8), (90, Iv (e.arg)), (91, Iv (yP (d.types.getD e.typ.toNat default) (zY d (e.typ, e.agg) M) e.field e.op e.arg)), (92, .bool false)]) sEv (fun ρw1531 => (zd (za ?_)))
 refine WD4 ((fun TT J => WF [fun vals B => Sep N p (J :: TT) B, fun vals B => Sep N p (J :: TT) B]) (hv :: kb :: jW :: (BkP g e) :: (BkT j d e p l) :: bG :: (BkV b l O T P R) :: jU :: aj) (MapO xA E2 R (Zr (yw M) bi ((zX bi M) ++ [e])))) (AF [Vl 0 (.agg #[Iv 0, Iv 0]), Vl 1 (.bool false), fun _ => True]) [[], [], [0, 1]] [2] [(0, 0), (0, 0), (0, 0)] fu ⟨ob1 0 fun _ _ (fv : Sep _ _ _ _) _ => obl rfl (zf (k := 2) nT mT rfl rfl (CellsAt.all (fv.b8)) dR), fun _ _ _ _ _ _ _ => obl rfl (aS (.bool false) dR), ?_, trivial⟩ ?_
 refine ob1 0 fun _ _ (cu : Sep _ _ _ _) fw => (obl rfl ((zp (v := .agg #[Iv 0, Iv 0]) (c' := #[Iv 0, Iv 0]) mT rfl (fw 0 dc) (cu.b8) (zW ⟨rfl, rfl, trivial⟩) yqc rfl ?_)))
 intro w1556 fx
 exact fun C Q D => ⟨(cu.pt8 fx), trivial⟩
 intro vals w1572 fy fz
 have cv : Sep _ _ _ _ := fy
 have jg := fz 1 dc
 refine zT (kv := [(0, Ix b 0), (3, Ix s 0), (5, Ix I 0), (6, Ix j 0), (7, Ix g 0), (10, Ix u 0), (82, .agg jR.toArray), (83, Ix u 1), (84, U), (85, Ix s 6), (86, Iv (e.field)), (87, Ix s 7), (88, Iv (e.op)), (89, Ix s 8), (90, Iv (e.arg)), (91, Iv (yP (d.types.getD e.typ.toNat default) (zY d (e.typ, e.agg) M) e.field e.op e.arg)), (92, .bool false), (4, .bool false)]) ⟨rfl, rfl, rfl, rfl, rfl, rfl, rfl, rfl, rfl, rfl, rfl, rfl, rfl, rfl, rfl, rfl, rfl, (by exact jg), trivial⟩ (fun ρw1572 => (zd (zk (WE (b := I) uR nT mT rfl rfl (CellsAt.all (cv.b8)) (show _ = (.bool false : Value) from rfl) ?_))))
 have al := bz _ _ cv
 try simp +zetaDelta only at al
 rw [← bx] at al
 have am : (yA d M e).void = false := by show (yf d M e).1 = false; rw [hT]
 have bl : (zq d (M ++ [yA d M e])) = (Zr (zq d M) (e.typ, e.agg) (zU (e.typ, e.agg) M + 1, (doL (d.types.getD e.typ.toNat default) (zY d (e.typ, e.agg) M) e.field e.op e.arg))) := Vd am
 have bm : (yw (M ++ [yA d M e])) = (Zr (yw M) bi ((zX bi M) ++ [e])) := Qw am
 try simp +zetaDelta only at al
 rw [← bl, ← bm] at al
 have fA : Sep _ _ (jZ :: _) _ := ViewO.close (d := d) (L := L) (M := (M ++ [yA d M e])) (al.s12_iaklcbdefghj)
 rw [hT]
 refine ⟨rfl, ?_, (fA.s7_a)⟩
 exact ⟨by decide, by decide⟩
 have af := zC af
 have hT : yf d M e = (true, 0, 0) := hfree.trans (if_pos af)
 refine zh rfl (za ?_)
 try simp +zetaDelta only at aD
 rw [← du] at aD
 refine WD4 ((fun TT J => WF [fun vals B => Sep N p (J :: TT) B, fun vals B => Sep N p (J :: TT) B]) (jW :: jY :: (BkP g e) :: (BkT j d e p l) :: bG :: (BkV b l O T P R) :: (Md1 R M e m) :: ka :: (RwI ve0 e.deps) :: jU :: aj) kb) (AF [Vl 0 (.agg #[Iv 0, Iv 0]), Vl 1 (.bool true), fun _ => True]) [[], [], [0, 1]] [2] [(0, 0), (0, 0), (0, 0)] aD ⟨ob1 0 fun _ _ (fB : Sep _ _ _ _) _ => obl rfl (zf (k := 2) nT mT rfl rfl (CellsAt.all (fB.b10)) dR), fun _ _ _ _ _ _ _ => obl rfl (aS (.bool true) dR), ?_, trivial⟩ ?_
 refine ob1 0 fun _ _ (cw : Sep _ _ _ _) fC => (obl rfl ((zp (v := .agg #[Iv 0, Iv 0]) (c' := #[Iv 0, Iv 0]) mT rfl (fC 0 dc) (cw.b10) (zW ⟨rfl, rfl, trivial⟩) yqc rfl ?_)))
 intro w1602 fE
 exact fun C Q D => ⟨(cw.pt10 fE), trivial⟩
 intro vals dC fF fG
 have cx : Sep _ _ _ _ := fF
 have jh := fG 1 dc
 refine zT (kv := [(0, Ix b 0), (3, Ix s 0), (5, Ix I 0), (6, Ix j 0), (7, Ix g 0), (10, Ix u 0), (82, .agg jR.toArray), (83, Ix u 1), (84, U), (85, Ix s 6), (86, Iv (e.field)), (87, Ix s 7), (88, Iv (e.op)), (89, Ix s 8), (90, Iv (e.arg)), (91, Iv (yP (d.types.getD e.typ.toNat default) (zY d (e.typ, e.agg) M) e.field e.op e.arg)), (92, .bool true), (4, .bool true)]) ⟨rfl, rfl, rfl, rfl, rfl, rfl, rfl, rfl, rfl, rfl, rfl, rfl, rfl, rfl, rfl, rfl, rfl, (by exact jh), trivial⟩ (fun ρw1618 => (zd (zk (WE (b := I) uR nT mT rfl rfl (CellsAt.all (cx.b10)) (show _ = (.bool true : Value) from rfl) ?_))))
 have bn := bz _ _ cx
 try simp +zetaDelta only at bn
 rw [← bx] at bn
 have fH : Sep _ _ ((Yu E1 (.agg #[Iw (zU (e.typ, e.agg) M), H]) ((zq d M) (e.typ, e.agg))) :: _) _ := Vs (bn.mv1) jM
 have fI : Sep G W (jV :: (RwT l d.types) :: jW :: (BkP g e) :: (BkT j d e p l) :: bG :: (BkV b l O T P R) :: (Md1 R M e m) :: ka :: (RwI ve0 e.deps) :: jU :: (RwP O d.projs) :: (RwN T L) :: Rs) dC := (fH.mv3).mapoPut
 have fJ : Sep _ _ ((Yu E2 m ((yw M) bi)) :: _) _ := Wa (fI.mv8)
 have bp : Sep G W (jX :: jV :: (RwT l d.types) :: jW :: (BkP g e) :: (BkT j d e p l) :: bG :: (BkV b l O T P R) :: (RwI ve0 e.deps) :: jU :: (RwP O d.projs) :: (RwN T L) :: Rs) dC := (fJ.mv8).mapoPut
 have am : (yA d M e).void = true := by show (yf d M e).1 = true; rw [hT]
 have bl : (zq d (M ++ [yA d M e])) = (zq d M) := (xl am).1
 have bm : (yw (M ++ [yA d M e])) = (yw M) := (xl (d := d) am).2
 try simp +zetaDelta only at bp
 rw [← bl, ← bm] at bp
 have fK : Sep _ _ (jZ :: _) _ := ViewO.close (d := d) (L := L) (M := (M ++ [yA d M e])) (bp.s12_hcklbadefgij)
 rw [hT]
 refine ⟨rfl, ?_, (fK.s7_a)⟩
 exact ⟨by decide, by decide⟩
 have aR := tD aR
 refine zh rfl (zl (za (zw (za (R0 fun _ => ?_)))))
 have fL : k < (zX (e.typ, e.agg, e.field) M).length := bo
 refine st (zn (k := 10) (i := k) oT lT rfl aA.sl rfl fL ?_)
 have cy : k < (zX (e.typ, e.agg, e.field) M).length := bo
 obtain ⟨dH, an, bq⟩ := aA.evD cy
 have hsm1638 : (((zX (e.typ, e.agg, e.field) M).getD k default).deps).length * 8 ≤ 140737488355328 := an.small
 have dI := aB.cells dH (aA.foot (ne_of_lt cy))
 refine st (zf (k := 10) qT lT rfl rfl dI (st (zr tR ?_)))
 intro w1642 ap fM
 have cz := aB.new fM
 refine stn (zp (v := .agg jT.toArray) (c' := jT.toArray) lT rfl rfl (cz.b0) (zW ⟨rfl, rfl, rfl, an.sl.one, rfl, rfl, rfl, rfl, rfl, rfl, trivial⟩) yqc rfl ?_)
 intro w1644 fN
 refine zd (za ?_)
 refine WD4 ((fun J ab ad aH aI => WF [fun vals B => Sep bd Y (J :: (BkP g e) :: ab :: ad :: aH :: aI :: (RwI ve0 e.deps) :: bC) B, fun vals B => (vals 8 = (.bool ((xn (((d.types.getD e.typ.toNat default).fields).getD e.field.toNat default) ((zX bi M).getD k default) e)) : Value)) ∧ Sep bd Y ((RwI ve0 e.deps) :: J :: (BkP g e) :: ab :: ad :: aH :: aI :: bC) B]) (Blk ap jT.toArray 41) (BkT j d e p l) jU bG (BkV b l O T P R)) (AF [Vl 0 (Ix j 0), Vl 1 (bF), Vl 2 (Ix s 6), Vl 3 (Iv (e.field)), Vl 4 (Ix (sb bF) (so bF + e.field.toNat * 4)), Vl 5 (.agg ((((d.types.getD e.typ.toNat default).fields).getD e.field.toNat default).cells (zP Y (sb bF) (so bF + e.field.toNat * 4 + 3))).toArray), Vl 6 (.agg jT.toArray), Vl 7 (.agg (e.cells ve0).toArray), fun _ => True]) [[], [0], [], [2], (rg 4), (rg 5), [], [], (rg 8)] [8] [(0, 0), (0, 0), (0, 0), (0, 0), (0, 0), (0, 0), (0, 0), (0, 0), (0, 0)] (cz.pt0 fN) ⟨fun _ _ _ _ _ _ _ => obl rfl (yZ rfl dR), ob1 0 fun _ _ (fO : Sep _ _ _ _) fP => obl rfl (lD bF Tryz.isAgg51 (fP 0 dc) (zb (fO.b2) rfl) dR), fun _ _ _ _ _ _ _ => obl rfl (xF rfl dR), ob1 0 fun _ _ (fQ : Sep _ _ _ _) fR => obl rfl (lD (Iv (e.field)) kT (fR 2 dc) (zb (fQ.b4) rfl) dR), ?_, ?_, ob1 0 fun _ _ (fS : Sep _ _ _ _) _ => obl rfl (zf (k := 10) qT lT rfl rfl (CellsAt.all (fS.b0)) dR), ob1 0 fun _ _ (fT : Sep _ _ _ _) _ => obl rfl (zf (k := 10) qT lT rfl rfl (CellsAt.all (fT.b4)) dR), ?_, trivial⟩ ?_
 refine ob1 0 fun _ _ _ cC => (obl rfl ?_)
 have hi1774 : e.field.toNat < ((d.types.getD e.typ.toNat default).fields).length := bo
 exact zz (k := 4) (i := e.field) Tryz.underlying51 vY (cC 1 dc) (RdS.base V az).sl (cC 3 dc) ⟨by omega, by omega⟩ dR
 refine ob1 0 fun _ _ (fU : Sep _ _ _ _) fV => (obl rfl ?_)
 have cD : e.field.toNat < ((d.types.getD e.typ.toNat default).fields).length := bo
 obtain ⟨dJ, cE, hoke1783⟩ := (RdS.base V az).fldD cD
 have hsm1785 : ((((d.types.getD e.typ.toNat default).fields).getD e.field.toNat default).moves).length * 32 ≤ 140737488355328 := cE.small
 have dK := fU.cells dJ ((RdS.base V az).foot (ne_of_lt cD))
 exact zf (k := 4) Tryz.isAgg110 vY rfl (fV 4 dc) dK dR
 refine ob1 0 fun vals _ (cF : Sep _ _ _ _) br => (obl rfl ?_)
 have cG : e.field.toNat < ((d.types.getD e.typ.toNat default).fields).length := bo
 obtain ⟨dL, aJ, cS⟩ := (RdS.base V az).fldD cG
 have hsm1723 : ((((d.types.getD e.typ.toNat default).fields).getD e.field.toNat default).moves).length * 32 ≤ 140737488355328 := aJ.small
 have hcw1724 := cF.cells dL ((RdS.base V az).foot (ne_of_lt cG))
 obtain ⟨G1726, fW, cH, fX, fY⟩ := (cF.mv6).lend
 have bv := RowE.rd fW
 have hrd1732s : _ * 8 ≤ _ := bv.small
 refine (zB (f := 60) (vals := [.agg ((((d.types.getD e.typ.toNat default).fields).getD e.field.toNat default).cells (zP Y (sb bF) (so bF + e.field.toNat * 4 + 3))).toArray, .agg jT.toArray, .agg (e.cells ve0).toArray]) (cap := []) rfl (yE ⟨(br 5 dc), (br 6 dc), (br 7 dc), trivial⟩) Tryz.call60 (zaw (f := (((d.types.getD e.typ.toNat default).fields).getD e.field.toNat default)) (x := ((zX bi M).getD k default)) (e := e) (RdS.base aJ cH) cS (RdS.base an cH) bq bv oe fX) ?_)
 rintro _ w1733 ⟨rfl, fZ⟩
 have ga := fY _ _ fZ
 exact fun C Q D => ⟨(And.intro Q ga), trivial⟩
 intro vals w1801 gc hA1803
 obtain ⟨gd, cI⟩ := gc
 refine zT (kv := [(0, Ix b 0), (3, Ix s 0), (5, Ix I 0), (6, Ix j 0), (7, Ix g 0), (49, m), (50, Iw ((zX bi M).length)), (51, Iw k), (52, .bool true), (53, Ix (sb m) (so m + k * 10)), (54, .agg jT.toArray), (9, Ix ap 0), (63, .bool ((xn (((d.types.getD e.typ.toNat default).fields).getD e.field.toNat default) ((zX bi M).getD k default) e)))]) ⟨rfl, rfl, rfl, rfl, rfl, rfl, rfl, rfl, rfl, rfl, rfl, rfl, (by exact gd), trivial⟩ (fun ρw1801 => (zd ?_))
 cases cJ : (xn (((d.types.getD e.typ.toNat default).fields).getD e.field.toNat default) ((zX (e.typ, e.agg, e.field) M).getD k default) e)
 refine zg rfl (zl (R0 fun _ => ?_))
 have ge : InR ((k + 1 : Nat) : Int) := bo
 refine st (zV (r := ((k + 1 : Nat) : Int)) (k := .i64) (a := ((k : Nat) : Int)) (b := 1) rfl rfl (by rw [show (((k : Nat) : Int) + 1 : Int) = ((k + 1 : Nat) : Int) from bo]; exact zJ ge) (st (mV (Iw (k + 1)) (zd ?_))))
 exact ⟨_, by omega, k + 1, _, rfl, sSf, by omega, (yU hno cJ), (cI.s7_cdefga)⟩
 have bw := bq
 have hT := zbr hfz om hno cJ
 refine zh rfl (za ?_)
 refine WD4 ((fun TT J ab => WF [fun vals B => Sep bd Y ((RwI ve0 e.deps) :: J :: (BkP g e) :: ab :: jU :: TT) B, fun vals B => Sep bd Y ((RwI ve0 e.deps) :: J :: (BkP g e) :: ab :: (Blk I #[Iv (((zX bi M).getD k default).origin), Iv (((zX bi M).getD k default).seq)] 38) :: TT) B]) (bG :: (BkV b l O T P R) :: bC) (Blk ap jT.toArray 41) (BkT j d e p l)) (AF [Vl 0 (Ix ap 0), Vl 1 (.agg #[Iv (((zX bi M).getD k default).origin), Iv (((zX bi M).getD k default).seq)]), Vl 2 (.bool true), fun _ => True]) [[], [0], [], [0, 1, 2]] [3] [(0, 0), (0, 0), (0, 0), (0, 0)] cI ⟨fun _ _ _ _ _ _ _ => obl rfl (yy rfl dR), ob1 0 fun _ _ (gf : Sep _ _ _ _) gg => obl rfl (zf (k := 2) (cs := [Iv (((zX bi M).getD k default).origin), Iv (((zX bi M).getD k default).seq)]) nT mT rfl (gg 0 dc) (CellsAt.sub (CellsAt.all (gf.b1)) 0 (cs2 := [Iv (((zX bi M).getD k default).origin), Iv (((zX bi M).getD k default).seq)]) rfl) dR), fun _ _ _ _ _ _ _ => obl rfl (aS (.bool true) dR), ?_, trivial⟩ ?_
 refine ob1 0 fun _ _ (cK : Sep _ _ _ _) gh => (obl rfl ((zp (v := .agg #[Iv (((zX bi M).getD k default).origin), Iv (((zX bi M).getD k default).seq)]) (c' := #[Iv (((zX bi M).getD k default).origin), Iv (((zX bi M).getD k default).seq)]) mT rfl (gh 1 dc) (cK.b4) (zW ⟨rfl, rfl, trivial⟩) yqc rfl ?_)))
 intro w1837 gi
 exact fun C Q D => ⟨(cK.pt4 gi), trivial⟩
 intro vals ji gj gk
 have cM : Sep _ _ _ _ := gj
 have jj := gk 2 dc
 refine zT (kv := [(0, Ix b 0), (3, Ix s 0), (5, Ix I 0), (6, Ix j 0), (7, Ix g 0), (49, m), (50, Iw ((zX bi M).length)), (51, Iw k), (52, .bool true), (53, Ix (sb m) (so m + k * 10)), (54, .agg jT.toArray), (9, Ix ap 0), (63, .bool true), (4, .bool true)]) ⟨rfl, rfl, rfl, rfl, rfl, rfl, rfl, rfl, rfl, rfl, rfl, rfl, rfl, (by exact jj), trivial⟩ (fun ρw1860 => (zd (zk (WE (b := I) uR nT mT rfl rfl (CellsAt.all (cM.b4)) (show _ = (.bool true : Value) from rfl) ?_))))
 have gl := dp _ _ cM
 have ao := bz _ _ gl
 try simp +zetaDelta only at ao
 rw [← dr] at ao
 try simp +zetaDelta only at ao
 rw [← bx] at ao
 have gm : Sep _ _ ((Yu E2 m ((yw M) bi)) :: _) _ := Wa (ao.mv1)
 have bs : Sep G W (jX :: (RwT l d.types) :: (RwI ve0 e.deps) :: (Blk ap jT.toArray 41) :: (BkP g e) :: (BkT j d e p l) :: (Blk I #[Iv (((zX bi M).getD k default).origin), Iv (((zX bi M).getD k default).seq)] 38) :: bG :: (BkV b l O T P R) :: jV :: (RwP O d.projs) :: (RwN T L) :: Rs) ji := (gm.mv9).mapoPut
 have am : (yA d M e).void = true := by show (yf d M e).1 = true; rw [hT]
 have bl : (zq d (M ++ [yA d M e])) = (zq d M) := (xl am).1
 have bm : (yw (M ++ [yA d M e])) = (yw M) := (xl (d := d) am).2
 try simp +zetaDelta only at bs
 rw [← bl, ← bm] at bs
 have gn : Sep _ _ (jZ :: _) _ := ViewO.close (d := d) (L := L) (M := (M ++ [yA d M e])) (bs.s12_ibkljacdefgh)
 rw [hT]
 refine ⟨rfl, ?_, (gn.s7_a)⟩
 exact ⟨bw.origin, bw.seq⟩
 have ag := zC ag
 have hT : yf d M e = (true, 0, 0) := Ui ag
 refine zh rfl (za (WD4 ((fun TT => WF [fun vals B => Sep G W ((RwT l d.types) :: TT) B, fun vals B => Sep G W ((RwT l d.types) :: TT) B]) ((RwP O d.projs) :: jU :: bG :: (BkV b l O T P R) :: (RwN T L) :: jV :: jX :: (RwI ve0 e.deps) :: Rs)) (AF [Vl 0 (.agg #[Iv 0, Iv 0]), Vl 1 (.bool true), fun _ => True]) [[], [], [0, 1]] [2] [(0, 0), (0, 0), (0, 0)] cV ⟨ob1 0 fun _ _ (go : Sep _ _ _ _) _ => obl rfl (zf (k := 2) nT mT rfl rfl (CellsAt.all (go.b2)) dR), fun _ _ _ _ _ _ _ => obl rfl (aS (.bool true) dR), ?_, trivial⟩ ?_))
 refine ob1 0 fun _ _ (cN : Sep _ _ _ _) gp => (obl rfl ((zp (v := .agg #[Iv 0, Iv 0]) (c' := #[Iv 0, Iv 0]) mT rfl (gp 0 dc) (cN.b2) (zW ⟨rfl, rfl, trivial⟩) yqc rfl ?_)))
 intro w1895 gq
 exact fun C Q D => ⟨(cN.pt2 gq), trivial⟩
 intro vals w1911 gr gs
 have aF : Sep _ _ _ _ := gr
 have jk := gs 1 dc
 refine zT (kv := [(0, Ix b 0), (1, .agg (e.cells ve0).toArray), (3, Ix s 0), (4, .bool true), (5, Ix I 0), (25, .bool true)]) ⟨rfl, rfl, rfl, (by exact jk), rfl, rfl, trivial⟩ (fun ρw1911 => (zd (zk (WE (b := I) uR nT mT rfl rfl (CellsAt.all (aF.b2)) (show _ = (.bool true : Value) from rfl) ?_))))
 have am : (yA d M e).void = true := by show (yf d M e).1 = true; rw [hT]
 have bl : (zq d (M ++ [yA d M e])) = (zq d M) := (xl am).1
 have bm : (yw (M ++ [yA d M e])) = (yw M) := (xl (d := d) am).2
 try simp +zetaDelta only at aF
 rw [← bl, ← bm] at aF
 have gt : Sep _ _ (jZ :: _) _ := ViewO.close (d := d) (L := L) (M := (M ++ [yA d M e])) (aF.s9_eabfghcdi)
 rw [hT]
 refine ⟨rfl, ?_, (gt.s4_a)⟩
 exact ⟨by decide, by decide⟩

end Go.Proofs.YtbbabhaalmkbkaaGreatDoor
set_option maxRecDepth 8000
set_option maxHeartbeats 4000000
namespace Go.Proofs.YtbbabhaalmkbkaaGreatDoor
open Go.Proofs Go.RowKit

def yT (d : Dcl) (k : Int × Int) (L : List Ent) : Sta := ⟨((zU k L : Nat) : Int), stL d k L⟩
theorem YW (d : Dcl) (l : List Ev) : (zt d l).length = l.length := by
  induction l using WO with
  | h0 => rfl
  | h1 l e ih => rw [Yt, List.length_append, List.length_append, ih]; rfl
theorem Qq {d : Dcl} {l : List Ev} {k : Nat} (h : k < l.length) : zt d (l.take (k + 1)) = zt d (l.take k) ++ [yA d (zt d (l.take k)) (l.getD k default)] := by rw [List.take_getD (d := default) h, Yt]
theorem JI {d : Dcl} {l : List Ev} {k : Nat} (h : l.length ≤ 1000000) : (zt d (l.take k)).length ≤ 1000000 := by rw [YW, List.length_take]; omega
theorem el79 : Elem Tryz.prog 79 57 13 120 := ⟨wY, _, _, rfl, rfl, rfl, rfl, rfl⟩
set_option maxHeartbeats 8000000 in
theorem D_Add {G : Nat → Prop} {W w : World} {Rs : List HP} {b : Nat} {d : Dcl} {L : List Ent} {e : Ev} {de0 : Value} (hde0 : RdS W G de0 e.deps) (oe : e.Ok) (hKN : RdS W G (.slice (some ⟨0, 0, none⟩) 6 6) kindsL) (hS0 : Sep G W ((ViewO b d L L) :: Rs) w) (hd : DclOk d) (hinv : Inv d L) (hml : L.length ≤ 1000000) : Ret Tryz.prog 16 [.pointer (some ⟨b, 0, none⟩), .agg (e.cells de0).toArray] w (fun r w' => ∃ (v : Value), r = (.agg ((yA d L e).cells v).toArray : Value) ∧ Sep G W ((ViewO b d (L ++ [yA d L e]) (L ++ [yA d L e])) :: (RowE (α := Int) own 3 v e.deps) :: Rs) w') := by
 have hde0s : _ * 8 ≤ _ := hde0.small
 have hKNs : _ * 8 ≤ _ := hKN.small
 refine zi (args := [Ix b 0, .agg (e.cells de0).toArray]) Tryz.func16 rfl rfl ?_
 refine za (R0 fun _ => st (zH (v := .agg (e.cells de0).toArray) rfl ?_))
 intro w3 b2 bz
 let bF := Blk b2 (e.cells de0).toArray 41
 refine st (zr kA ?_)
 intro w7 U bA
 let bo := Blk U #[Iv 0, Iv 0, Iv 0, (Iz), Iv 0, Iv 0, Iv 0, Iv 0, Iv 0, Iv 0, .bool false, Iv 0, Iv 0] 57
 have bb := (hS0.new bz).new bA
 refine zd (za (R0 fun _ => st (mV (Ix b 0) (st (zf (k := 10) qT lT rfl rfl (CellsAt.all (bb.b1)) (st (cL kY (WD (e := e) hde0 oe bb) ?_)))))))
 rintro _ w10 ⟨v9, rfl, ah⟩
 have bd := ah.r0
 have hr12s : _ * 8 ≤ _ := bd.2
 refine st (cL Tryz.call40 (D_try  oe hKN (ah.mv3) (hd) (hinv) (hml)) ?_)
 rintro _ w15 ⟨rfl, V, be⟩
 refine st (mV (.tuple #[.bool ((yf d L e).1), .agg #[Iv ((yf d L e).2.1), Iv ((yf d L e).2.2)]]) (st (zj (vs := [.bool ((yf d L e).1), .agg #[Iv ((yf d L e).2.1), Iv ((yf d L e).2.2)]]) (i := 0) (v := .bool ((yf d L e).1)) rfl rfl (st (zj (vs := [.bool ((yf d L e).1), .agg #[Iv ((yf d L e).2.1), Iv ((yf d L e).2.2)]]) (i := 1) (v := .agg #[Iv ((yf d L e).2.1), Iv ((yf d L e).2.2)]) rfl rfl (st (zr oY ?_)))))))
 intro w19 T bf
 let bB := Blk T #[Iv ((yf d L e).2.1), Iv ((yf d L e).2.2)] 38
 have ai := be.new bf
 refine st (aS (.bool ((yf d L e).1)) (stn (zp (v := .agg #[Iv ((yf d L e).2.1), Iv ((yf d L e).2.2)]) (c' := #[Iv ((yf d L e).2.1), Iv ((yf d L e).2.2)]) mT rfl rfl (ai.b0) (zW ⟨rfl, rfl, trivial⟩) yqc rfl ?_)))
 intro bC bg
 refine zd (za ?_)
 have hek : Ent.Ok (yA d L e) := ⟨oe, V.1, V.2⟩
 obtain ⟨q, s, t, A, B, bh⟩ := ViewO.open ((ai.pt0 bg).mv1)
 let bE := MapO xA E2 B (yw (L ++ [yA d L e]))
 let bD := MapO yI E1 A (zq d (L ++ [yA d L e]))
 have H : Sep G W ((BkV b q s t A B) :: (RwT q d.types) :: (RwP s d.projs) :: (RwN t L) :: bD :: bE :: bB :: bo :: bF :: Rs) bC := bh
 have bi := H.r1
 have hr31s : _ * 24 ≤ _ := bi.2
 have bj := H.r2
 have hr32s : _ * 40 ≤ _ := bj.2
 have bk := H.r3
 have hr33s : _ * 120 ≤ _ := bk.2
 refine WD4 ((fun TT F C D I => WF [fun vals z => Sep G W (F :: C :: D :: I :: TT) z, fun vals z => ∃ (g : Value), (vals 6 = (.agg (e.cells g).toArray : Value)) ∧ Sep G W ((RwI g e.deps) :: F :: C :: D :: I :: TT) z, fun vals z => ∃ (g : Value) (l : Nat), (vals 6 = (.agg (e.cells g).toArray : Value)) ∧ (vals 10 = ((Iy l 1 1) : Value)) ∧ Sep G W ((Blk l ((yA d L e).cells g).toArray 57) :: (RwI g e.deps) :: F :: C :: D :: I :: TT) z, fun vals z => ∃ (g : Value) (l : Nat) (j : Value), (vals 6 = (.agg (e.cells g).toArray : Value)) ∧ (vals 10 = ((Iy l 1 1) : Value)) ∧ (vals 11 = (j : Value)) ∧ Sep G W ((RwN j (L ++ [(yA d L e)])) :: F :: C :: D :: TT) z, fun vals z => ∃ (g : Value) (l : Nat) (j : Value), (vals 6 = (.agg (e.cells g).toArray : Value)) ∧ (vals 10 = ((Iy l 1 1) : Value)) ∧ (vals 11 = (j : Value)) ∧ Sep G W ((RwN j (L ++ [(yA d L e)])) :: (BkV b q s j A B) :: C :: D :: TT) z]) (bD :: bE :: bB :: bo :: bF :: Rs) (BkV b q s t A B) (RwT q d.types) (RwP s d.projs) (RwN t L)) (AF [Vl 0 (Ix b 0), Vl 1 (Ix b 0), Vl 2 (Ix b 0), Vl 3 (Ix b 2), Vl 4 (t), Vl 5 (.agg (e.cells de0).toArray), fun _ => True, Vl 7 (.bool ((yf d L e).1)), Vl 8 (.agg #[Iv ((yf d L e).2.1), Iv ((yf d L e).2.2)]), fun vals => ∀ (g : Value), vals 6 = (.agg (e.cells g).toArray : Value) → vals 9 = (.agg ((yA d L e).cells g).toArray : Value), fun _ => True, fun _ => True, Vl 12 (Ix b 0), Vl 13 (Ix b 2), fun _ => True]) [[], [], [1], [1, 2], [1, 2, 3], [], [5], [], [], [5, 6, 7, 8], [5, 6, 7, 8, 9], [1, 2, 3, 4, 5, 6, 7, 8, 9, 10], (rg 12), (rg 13), (rg 14)] [6, 10, 11, 14] [(0, 3), (0, 2), (0, 2), (0, 2), (0, 2), (0, 0), (0, 0), (0, 1), (0, 1), (1, 1), (1, 1), (2, 2), (3, 3), (3, 3), (3, 3)] H ⟨fun _ _ _ _ _ _ _ => obl rfl (mV (Ix b 0) dR), fun _ _ _ _ _ _ _ => obl rfl (mV (Ix b 0) dR), fun _ _ _ _ _ _ ao => obl rfl (zx (b := b) (o := 0) (ao 1 dc) dR), fun _ _ _ _ _ _ ap => obl rfl (Kd (ap 2 dc) dR), ?_, ob1 0 fun _ _ (aq : Sep _ _ _ _) _ => obl rfl (zf (k := 10) qT lT rfl rfl (CellsAt.all (aq.b8)) dR), ?_, fun _ _ _ _ _ _ _ => obl rfl (mV (.bool ((yf d L e).1)) dR), ?_, ?_, ?_, ?_, fun _ _ _ _ _ _ ar => obl rfl (zx (b := b) (o := 0) (ar 0 dc) dR), fun _ _ _ _ _ _ au => obl rfl (Kd (au 12 dc) dR), ?_, trivial⟩ ?_ (hlocA := yW ⟨dA, dA, dA, dA, dA, dA, dT, dA, dA, fun vals p u h => fun g E => (u 9 (.inl rfl)).trans (h g ((u 6 (.inr dc)).symm.trans E)), dT, dT, dA, dA, dT, trivial⟩)
 refine fun J _ _ bl bm K N => ?_
 have hkk : J = 0 ∨ J = 1 ∨ J = 2 := by have h1 : 0 ≤ J := bl; have h2 : J ≤ 2 := bm; omega
 rcases hkk with rfl | rfl | rfl
 have av : Sep _ _ _ _ := K
 exact obl rfl (lD t lY (N 3 dc) (zb (av.b0) rfl) dR)
 obtain ⟨g, m, aw⟩ := K
 exact obl rfl (lD t lY (N 3 dc) (zb (aw.b1) rfl) dR)
 obtain ⟨g, l, m, y, ax⟩ := K
 exact obl rfl (lD t lY (N 3 dc) (zb (ax.b2) rfl) dR)
 refine ob1 0 fun vals _ (bn : Sep _ _ _ _) bp => (obl rfl ((zB (f := 41) (vals := [.agg (e.cells de0).toArray]) (cap := []) rfl (yE ⟨(bp 5 dc), trivial⟩) kY (WD (e := e) hde0 oe bn) ?_)))
 rintro _ w84 ⟨g, rfl, aj⟩
 have bq := aj.r0
 have hr86s : _ * 8 ≤ _ := bq.2
 exact fun p u n => ⟨(Exists.intro g (And.intro u aj)), trivial⟩
 refine fun O _ _ br bs X _ => ?_
 have hkk : O = 0 ∨ O = 1 := by have h1 : 0 ≤ O := br; have h2 : O ≤ 1 := bs; omega
 rcases hkk with rfl | rfl
 have ay : Sep _ _ _ _ := X
 exact obl rfl (zf (k := 2) nT mT rfl rfl (CellsAt.all (ay.b6)) dR)
 obtain ⟨g, m, az⟩ := X
 exact obl rfl (zf (k := 2) nT mT rfl rfl (CellsAt.all (az.b7)) dR)
 refine ob1 1 fun _ _ aA Y => ?_
 obtain ⟨g, m, hS229⟩ := aA
 refine obl rfl (zI (parts' := [(0, .agg (e.cells g).toArray), (1, .bool ((yf d L e).1)), (2, .agg #[Iv ((yf d L e).2.1), Iv ((yf d L e).2.2)])]) (v := .agg ((yA d L e).cells g).toArray) (Zq ⟨rfl, m, rfl, (Y 7 (by decide)), rfl, (Y 8 (by decide)), trivial⟩) (by simp +zetaDelta [Instr.build, Instr.fill, go_sem, Ent.cells, Ev.cells, yA]) (fun p u n => ⟨rfl, ?_⟩))
 intro v83q E
 rw [n 6 (by decide)] at E; cases m.symm.trans E
 exact u
 refine ob1 1 fun vals _ aB aC => ?_
 obtain ⟨g, m, aD⟩ := aB
 have bt : vals 9 = (.agg ((yA d L e).cells g).toArray : Value) := aC 9 dc g m
 refine obl rfl ((zS (k := 13) (parts' := [(0, .agg ((yA d L e).cells g).toArray)]) (c := ((yA d L e).cells g).toArray) wY mY kA dc (Zq ⟨rfl, bt, trivial⟩) kr ?_))
 intro w120 l aE
 exact fun p u n => ⟨(Exists.intro g (Exists.intro l (And.intro ((n 6 dc).trans m) (And.intro u (aD.new aE))))), trivial⟩
 refine ob1 2 fun _ _ aF aG => ?_
 obtain ⟨g, l, m, y, Z⟩ := aF
 refine obl rfl ?_
 have ak := Z.b0
 refine (xb (src := own) (bytes := 120) (x1 := (yA d L e)) (Z.s11_fbcdeghijk) el79 (aG 4 (by decide)) y ak (fun _ _ hN => ⟨_, rfl, RowE.soft hN, hek⟩) yqb rfl ?_)
 intro j w131 aa
 have aH := aa.r0
 have hr136s : _ * 120 ≤ _ := aH.2
 exact fun p u n => ⟨(Exists.intro g (Exists.intro l (Exists.intro j (And.intro ((n 6 dc).trans m) (And.intro ((n 10 dc).trans y) (And.intro u aa)))))), trivial⟩
 refine ob1 3 fun _ _ aI aJ => ?_
 obtain ⟨g, l, j, m, y, P, Q⟩ := aI
 refine obl rfl ?_
 have ab := Q.r0
 have hr162s : _ * 120 ≤ _ := ab.2
 refine (yn (v := j) (c := [q, s, t, .map (some A), .map (some B)]) (c' := [q, s, j, .map (some A), .map (some B)]) Tryz.sizeOf79 (aJ 13 dc) P (Q.b1) ab.1.one rfl rfl ?_)
 intro w160 aK
 exact fun p u n => ⟨(Exists.intro g (Exists.intro l (Exists.intro j (And.intro ((n 6 dc).trans m) (And.intro ((n 10 dc).trans y) (And.intro ((n 11 dc).trans P) (Q.pt1 aK))))))), trivial⟩
 intro vals w246 aL hA248
 obtain ⟨g, l, j, m, y, P, aM⟩ := aL
 refine zT (kv := [(0, Ix b 0), (1, .agg (e.cells de0).toArray), (3, Ix b2 0), (4, Ix U 0), (8, Ix b 0), (9, .agg (e.cells de0).toArray), (10, .agg (e.cells v9).toArray), (11, .tuple #[.bool ((yf d L e).1), .agg #[Iv ((yf d L e).2.1), Iv ((yf d L e).2.2)]]), (7, .tuple #[.bool ((yf d L e).1), .agg #[Iv ((yf d L e).2.1), Iv ((yf d L e).2.2)]]), (12, .bool ((yf d L e).1)), (13, .agg #[Iv ((yf d L e).2.1), Iv ((yf d L e).2.2)]), (6, Ix T 0), (5, .bool ((yf d L e).1))]) sEv (fun ρw246 => (zd (za ?_)))
 refine WD4 ((fun TT F C D I al am an bc => WF [fun vals z => Sep G W (F :: C :: D :: I :: al :: am :: an :: bc :: TT) z, fun vals z => ∃ (a : Value), (vals 1 = (.agg (e.cells a).toArray : Value)) ∧ Sep G W ((RwI a e.deps) :: F :: C :: D :: I :: al :: am :: an :: bc :: TT) z, fun vals z => ∃ (a : Value), (vals 1 = (.agg (e.cells a).toArray : Value)) ∧ Sep G W ((RwI a e.deps) :: F :: C :: D :: I :: al :: am :: an :: (Blk U ((yA d L e).cells a).toArray 57) :: TT) z]) (bF :: Rs) (RwN j (L ++ [(yA d L e)])) (BkV b q s j A B) (RwT q d.types) (RwP s d.projs) bD bE bB bo) (AF [Vl 0 (.agg (e.cells de0).toArray), fun _ => True, Vl 2 (.bool ((yf d L e).1)), Vl 3 (.agg #[Iv ((yf d L e).2.1), Iv ((yf d L e).2.2)]), fun vals => ∀ (a : Value), vals 1 = (.agg (e.cells a).toArray : Value) → vals 4 = (.agg ((yA d L e).cells a).toArray : Value), fun _ => True]) [[], [0], [], [], (rg 4), (rg 5)] [1, 5] [(0, 0), (0, 0), (0, 1), (0, 1), (1, 1), (1, 1)] aM ⟨ob1 0 fun _ _ (aN : Sep _ _ _ _) _ => obl rfl (zf (k := 10) qT lT rfl rfl (CellsAt.all (aN.b8)) dR), ?_, fun _ _ _ _ _ _ _ => obl rfl (mV (.bool ((yf d L e).1)) dR), ?_, ?_, ?_, trivial⟩ ?_ (hlocA := yW ⟨dA, dT, dA, dA, fun vals p u h => fun a E => (u 4 (.inl rfl)).trans (h a ((u 1 (.inr dc)).symm.trans E)), dT, trivial⟩)
 refine ob1 0 fun vals _ (aO : Sep _ _ _ _) aP => (obl rfl ((zB (f := 41) (vals := [.agg (e.cells de0).toArray]) (cap := []) rfl (yE ⟨(aP 0 dc), trivial⟩) kY (WD (e := e) hde0 oe aO) ?_)))
 rintro _ w266 ⟨a, rfl, ac⟩
 have aQ := ac.r0
 have hr268s : _ * 8 ≤ _ := aQ.2
 exact fun p u n => ⟨(Exists.intro a (And.intro u ac)), trivial⟩
 refine fun R _ _ bu bv ad _ => ?_
 have hkk : R = 0 ∨ R = 1 := by have h1 : 0 ≤ R := bu; have h2 : R ≤ 1 := bv; omega
 rcases hkk with rfl | rfl
 have aR : Sep _ _ _ _ := ad
 exact obl rfl (zf (k := 2) nT mT rfl rfl (CellsAt.all (aR.b6)) dR)
 obtain ⟨a, x, aT⟩ := ad
 exact obl rfl (zf (k := 2) nT mT rfl rfl (CellsAt.all (aT.b7)) dR)
 refine ob1 1 fun _ _ aU ae => ?_
 obtain ⟨a, x, hS331⟩ := aU
 refine obl rfl (zI (parts' := [(0, .agg (e.cells a).toArray), (1, .bool ((yf d L e).1)), (2, .agg #[Iv ((yf d L e).2.1), Iv ((yf d L e).2.2)])]) (v := .agg ((yA d L e).cells a).toArray) (Zq ⟨rfl, x, rfl, (ae 2 (by decide)), rfl, (ae 3 (by decide)), trivial⟩) (by simp +zetaDelta [Instr.build, Instr.fill, go_sem, Ent.cells, Ev.cells, yA]) (fun p u n => ⟨rfl, ?_⟩))
 intro v265q E
 rw [n 1 (by decide)] at E; cases x.symm.trans E
 exact u
 refine ob1 1 fun vals _ aV aW => ?_
 obtain ⟨a, x, S⟩ := aV
 have bw : vals 4 = (.agg ((yA d L e).cells a).toArray : Value) := aW 4 dc a x
 refine obl rfl ?_
 have af := S.r0
 have hr302s : _ * 8 ≤ _ := af.2
 refine (zp (v := .agg ((yA d L e).cells a).toArray) (c' := ((yA d L e).cells a).toArray) mY rfl bw (S.b8) (zW ⟨rfl, rfl, rfl, af.1.one, rfl, rfl, rfl, rfl, rfl, rfl, rfl, rfl, rfl, trivial⟩) yqc rfl ?_)
 intro w300 aX
 exact fun p u n => ⟨(Exists.intro a (And.intro ((n 1 dc).trans x) (S.pt8 aX))), trivial⟩
 intro vals bx aY hA336
 obtain ⟨a, x, ag⟩ := aY
 refine zT (kv := [(0, Ix b 0), (1, .agg (e.cells de0).toArray), (3, Ix b2 0), (4, Ix U 0), (8, Ix b 0), (9, .agg (e.cells de0).toArray), (10, .agg (e.cells v9).toArray), (11, .tuple #[.bool ((yf d L e).1), .agg #[Iv ((yf d L e).2.1), Iv ((yf d L e).2.2)]]), (7, .tuple #[.bool ((yf d L e).1), .agg #[Iv ((yf d L e).2.1), Iv ((yf d L e).2.2)]]), (12, .bool ((yf d L e).1)), (13, .agg #[Iv ((yf d L e).2.1), Iv ((yf d L e).2.2)]), (6, Ix T 0), (5, .bool ((yf d L e).1))]) sEv (fun ρw334 => (zd (zk (Qn (b := U) Tryz.results16 Tryz.isAgg57 mY rfl rfl (CellsAt.all (ag.b8)) ?_))))
 have aZ : Sep _ _ ((ViewO b d (L ++ [yA d L e]) (L ++ [yA d L e])) :: _) _ := ViewO.close (d := d) (L := (L ++ [yA d L e])) (M := (L ++ [yA d L e])) (ag.s10_cdebfgahij)
 have ba : Sep G W ((ViewO b d (L ++ [yA d L e]) (L ++ [yA d L e])) :: (RwI a e.deps) :: Rs) bx := aZ.sel 5 [0, 1] (Nat.le_add_left _ _) rfl rfl
 refine ⟨a, rfl, ba⟩

theorem UM {G : Nat → Prop} {W w : World} {Rs : List HP} {b : Nat} {d : Dcl} {L : List Ent} {ty : Int} (hty : InR ty) {no : Int} (hno : InR no) (hS0 : Sep G W ((ViewO b d L L) :: Rs) w) : Ret Tryz.prog 12 [.pointer (some ⟨b, 0, none⟩), .int .i64 (ty), .int .i64 (no)] w (fun r w' => ∃ (v : Value), r = (.tuple #[.agg ((yT d (ty, no) L).cells v).toArray, .bool ((zq d L (ty, no)).isSome)] : Value) ∧ Sep G W ((ViewO b d L L) :: (RowE (α := Cel) own 99 v (stL d (ty, no) L)) :: Rs) w') := by
 refine zi (args := [Ix b 0, Iv ty, Iv no]) Tryz.func12 rfl rfl ?_
 refine za (R0 fun _ => st (zr tT ?_))
 intro U b2 V
 refine st (aS (.bool false) (zd (za (R0 fun _ => ?_))))
 obtain ⟨f, g, h, m, j, B⟩ := ViewO.open ((hS0.new V).mv1)
 let aa := Blk b #[f, g, h, .map (some m), .map (some j)] 83
 have c : Sep G W (aa :: (RowE (α := Typ) own 53 f d.types) :: (RowE (α := Prj) own 115 g d.projs) :: (RowE (α := Ent) own 57 h L) :: (MapO yI E1 m (zq d L)) :: (MapO xA E2 j (yw L)) :: (Blk b2 #[Iv 0, (Iz)] 47) :: Rs) U := B
 have C := c.r1
 have hr12s : _ * 24 ≤ _ := C.2
 have D := c.r2
 have hr13s : _ * 40 ≤ _ := D.2
 have E := c.r3
 have hr14s : _ * 120 ≤ _ := E.2
 obtain ⟨vs16, A, F⟩ := (c.mv4).mapoTake VG (ty, no)
 obtain ⟨a, rfl, H⟩ := Wb (F.mv1) A
 have e : Sep G W ((RowE (α := Cel) own 99 a (stL d (ty, no) L)) :: (xE yI E1 VG m (zq d L) (ty, no) (.agg #[Iw (zU (ty, no) L), a])) :: aa :: (RowE (α := Typ) own 53 f d.types) :: (RowE (α := Prj) own 115 g d.projs) :: (RowE (α := Ent) own 57 h L) :: (MapO xA E2 j (yw L)) :: (Blk b2 #[Iv 0, (Iz)] 47) :: Rs) U := H
 have p := e.r0
 have hr22s : _ * 32 ≤ _ := p.2
 have hve9 := Yo (ty, no) L
 refine st (mV (Ix b 0) (st (zx (b := b) (o := 0) rfl (st (Ua rfl (st (lD (.map (some m)) lR rfl (zb (e.b2) rfl) (st (mV (Iv ty) (st (mV (Iv no) (st (zI (parts' := [(0, Iv ty), (1, Iv no)]) (v := .agg #[Iv ty, Iv no]) rfl (by simp +zetaDelta [Instr.build, Instr.fill, Ev.cells, go_sem, Mv.cells, Fld.cells, Typ.cells, Prj.cells, Dcl.cells, Cel.cells, AskR.cells, CelS.cells, Ev.cells, Ent.cells, Sta.cells]) (st (Zt e (i := 1) rfl K2 sR tT rfl rfl (st (mV (.tuple #[.agg #[Iw (zU (ty, no) L), a], .bool (((zq d L) (ty, no)).isSome)]) (st (zj (vs := [.agg #[Iw (zU (ty, no) L), a], .bool (((zq d L) (ty, no)).isSome)]) (i := 0) (v := .agg #[Iw (zU (ty, no) L), a]) rfl rfl ?_)))))))))))))))))))
 refine st (zj (vs := [.agg #[Iw (zU (ty, no) L), a], .bool (((zq d L) (ty, no)).isSome)]) (i := 1) (v := .bool (((zq d L) (ty, no)).isSome)) rfl rfl (st (zr tT ?_)))
 intro w25 X I
 have q := e.new I
 refine stn (zp (v := .agg #[Iw (zU (ty, no) L), a]) (c' := #[Iw (zU (ty, no) L), a]) mR rfl rfl (q.b0) (zW ⟨rfl, p.1.one, trivial⟩) yqc rfl ?_)
 intro w27 J
 have K : Sta.Ok (⟨((zU (ty, no) L : Nat) : Int), stL d (ty, no) L⟩ : Sta) := ⟨(show InR (((zU (ty, no) L : Nat) : Int)) from om)⟩
 have s := q.pt0 J
 refine st (aS (.bool (((zq d L) (ty, no)).isSome)) (zd (za (R0 fun _ => st (zf (k := 2) lA mR rfl rfl (CellsAt.all (s.b0)) ?_)))))
 obtain ⟨G32, N, hB35, O, P⟩ := (s.mv1).lend
 have n := RowE.rd N
 have hrd38s : _ * 32 ≤ _ := n.small
 refine st (cL Tryz.call34 (Jg (x := (⟨((zU (ty, no) L : Nat) : Int), stL d (ty, no) L⟩ : Sta)) n K O) ?_)
 rintro _ w40 ⟨l, rfl, t⟩
 let Z := ((⟨((zU (ty, no) L : Nat) : Int), stL d (ty, no) L⟩ : Sta).cells l)
 have u := t.r0
 have hr42s : _ * 32 ≤ _ := u.2
 have y := P _ _ t
 refine st (mV (.bool (((zq d L) (ty, no)).isSome)) (stn (zp (v := .agg Z.toArray) (c' := Z.toArray) mR rfl rfl (y.b9) (zW ⟨rfl, u.1.one, trivial⟩) yqc rfl ?_)))
 intro Y Q
 have z := y.pt9 Q
 refine st (aS (.bool (((zq d L) (ty, no)).isSome)) (zd (zk (Zv (b := b2) Tryz.results12 lA mR rfl rfl (CellsAt.all (z.b9)) (show _ = (.bool (((zq d L) (ty, no)).isSome) : Value) from rfl) ?_))))
 have R : Sep _ _ ((Yu E1 (.agg #[Iw (zU (ty, no) L), a]) ((zq d L) (ty, no))) :: _) _ := Uj z
 have S : Sep G W ((MapO yI E1 m (zq d L)) :: (RowE (α := Cel) own 99 l ((⟨((zU (ty, no) L : Nat) : Int), stL d (ty, no) L⟩ : Sta).cls)) :: (Blk X ((⟨((zU (ty, no) L : Nat) : Int), stL d (ty, no) L⟩ : Sta).cells a).toArray 47) :: aa :: (RowE (α := Typ) own 53 f d.types) :: (RowE (α := Prj) own 115 g d.projs) :: (RowE (α := Ent) own 57 h L) :: (MapO xA E2 j (yw L)) :: (Blk b2 Z.toArray 47) :: Rs) Y := (R.mv3).mapoPut
 have T : Sep _ _ ((ViewO b d L L) :: _) _ := ViewO.close (d := d) (L := L) (M := L) (S.s9_defgahbci)
 refine ⟨l, rfl, (T.s4_ab)⟩

theorem D_All {G : Nat → Prop} {W w : World} {Rs : List HP} {d : Dcl} {dd0 : Value} (hdd0 : RdS W G dd0 d.types) {dd1 : Value} (hdd1 : RdS W G dd1 d.projs) (od : d.Ok) {vl : Value} {l : List Ev} (hl : RdS W G vl l) (hKN : RdS W G (.slice (some ⟨0, 0, none⟩) 6 6) kindsL) (hS0 : Sep G W Rs w) (hd : DclOk d) (hfew : l.length ≤ 1000000) : Ret Tryz.prog 26 [.agg (d.cells dd0 dd1).toArray, vl] w (fun r w' => ∃ (b : Nat), r = (.pointer (some ⟨b, 0, none⟩) : Value) ∧ Sep G W ((ViewO b d (zt d l) (zt d l)) :: Rs) w') := by
 have hdd0s : _ * 24 ≤ _ := hdd0.small
 have hdd1s : _ * 40 ≤ _ := hdd1.small
 have hls : _ * 96 ≤ _ := hl.small
 have hKNs : _ * 8 ≤ _ := hKN.small
 refine zi (args := [.agg (d.cells dd0 dd1).toArray, vl]) Tryz.func26 rfl rfl ?_
 refine za (R0 fun _ => st (zH (v := .agg (d.cells dd0 dd1).toArray) rfl ?_))
 intro w3 b2 F
 have y := hS0.new F
 refine st (aS (.pointer none) (zd (za (R0 fun _ => st (zf (k := 2) wT kR rfl rfl (CellsAt.all (y.b0)) (st (cL Tryz.call50 (zbi (d := d) hdd0 hdd1 od y) ?_)))))))
 rintro _ w6 ⟨g, rfl, H⟩
 refine st (aS (Ix g 0) (zd (za (za (R0 fun _ => st (mV vl (st (zL (n := l.length) oT rfl hl.sl (st (mV (Iv 0) (zd (zw (yh (fun mq σ I => ∃ (k : Nat) (ρ : Env), mq = l.length - k ∧ σ = ye ρ [(2, Ix b2 0), (5, Ix g 0), (10, vl), (11, Iw l.length), (12, Iw k)] ∧ (k ≤ l.length) ∧ Sep G W ((ViewO g d (zt d (l.take k)) (zt d (l.take k))) :: (Blk b2 (d.cells dd0 dd1).toArray 25) :: Rs) I) ⟨0, _, rfl, sSf, Nat.zero_le _, H⟩ ?_)))))))))))))
 rintro m9 σ10 w8 ⟨k, ρl1, rfl, rfl, hkk, h⟩
 refine za (R0 fun _ => st (zF (k := .i64) (a := ((k : Nat) : Int)) (b := ((l.length : Nat) : Int)) rfl rfl (zd (za ?_))))
 cases f : decide (((k : Nat) : Int) < ((l.length : Nat) : Int))
 have f := fD f
 refine zg rfl (yi (yb (za (R0 fun _ => st (mV (Ix g 0) (st (aS (Ix g 0) (zd (zk (zG Tryz.results26 (show _ = (Ix g 0 : Value) from rfl) ?_))))))))))
 have j := h.s2_a
 have hkn : k = l.length := by omega
 rw [hkn, List.take_length] at j
 refine ⟨g, rfl, j⟩
 have f := tD f
 refine zh rfl (zl (za (zw (za (R0 fun _ => ?_)))))
 have z : k < l.length := bo
 refine st (zn (k := 10) (i := k) oT lT rfl hl.sl rfl z ?_)
 have m : k < l.length := bo
 obtain ⟨u, c, o⟩ := hl.evD m
 have hsm17 : ((l.getD k default).deps).length * 8 ≤ 140737488355328 := c.small
 have x := h.cells u (hl.foot (ne_of_lt m))
 refine st (zf (k := 10) qT lT rfl rfl x (st (zr tR ?_)))
 intro w21 b20 A
 have p := h.new A
 refine stn (zp (v := .agg ((l.getD k default).cells (zP W (sb vl) (so vl + k * 10 + 3))).toArray) (c' := ((l.getD k default).cells (zP W (sb vl) (so vl + k * 10 + 3))).toArray) lT rfl rfl (p.b0) (zW ⟨rfl, rfl, rfl, c.sl.one, rfl, rfl, rfl, rfl, rfl, rfl, trivial⟩) yqc rfl ?_)
 intro w23 B
 have q := p.pt0 B
 refine zd (R0 fun _ => st (mV (Ix g 0) (st (zf (k := 10) qT lT rfl rfl (CellsAt.all (q.b0)) (st (cL Tryz.call16 (D_Add (e := (l.getD k default)) c o hKN (q.mv1) (hd) ((Inv.run hd _)) ((JI hfew))) ?_))))))
 rintro _ w28 ⟨v27, rfl, s⟩
 have C := s.r1
 have hr30s : _ * 8 ≤ _ := C.2
 refine zd (R0 fun _ => ?_)
 have D : InR ((k + 1 : Nat) : Int) := bo
 refine st (zV (r := ((k + 1 : Nat) : Int)) (k := .i64) (a := ((k : Nat) : Int)) (b := 1) rfl rfl (by rw [show (((k : Nat) : Int) + 1 : Int) = ((k + 1 : Nat) : Int) from bo]; exact zJ D) (st (mV (Iw (k + 1)) (zd ?_))))
 have t := s.s4_ad
 have E : (zt d (l.take (k + 1))) = ((zt d (l.take k)) ++ [yA d (zt d (l.take k)) (l.getD k default)]) := (Qq om)
 rw [← E] at t
 exact ⟨_, by omega, k + 1, _, rfl, sSf, by omega, t⟩

def XZ (e : Ev) (n : Int) : Prop := (0 ≤ e.origin ∧ e.origin < n ∧ (e.deps.length : Int) = n ∧ 1 ≤ e.seq) ∧ ∀ i, i < e.deps.length → 0 ≤ e.deps.getD i 0
theorem Kg {α : Type} [Inhabited α] {P : α → Prop} {l : List α} {x : α} (h : ∀ i, i < l.length → P (l.getD i default)) (hx : P x) : ∀ i, i < (l ++ [x]).length → P ((l ++ [x]).getD i default) := by
  intro i hi
  rcases Nat.lt_or_ge i l.length with h1 | h1
  · have e : (l ++ [x]).getD i default = l.getD i default := by rw [List.getD_eq_getElem?_getD, List.getD_eq_getElem?_getD, List.getElem?_append_left h1]
    rw [e]; exact h i h1
  · have e : i = l.length := by rw [List.length_append, List.length_singleton] at hi; omega
    subst e
    rw [List.getD_eq_getElem?_getD, List.getElem?_append_right (Nat.le_refl _), Nat.sub_self]; exact hx
theorem zab {G : Nat → Prop} {W w : World} {Rs : List HP} {d : Dcl} {dd0 : Value} (hdd0 : RdS W G dd0 d.types) {dd1 : Value} (hdd1 : RdS W G dd1 d.projs) (od : d.Ok) (hS0 : Sep G W Rs w) : Ret Tryz.prog 6 [.agg (d.cells dd0 dd1).toArray] w (fun r w' => ∃ (b : Bool), r = (.bool b : Value) ∧ (b = true → DclOk d ∧ QW d) ∧ Sep G W Rs w') := by
 have hdd0s : _ * 24 ≤ _ := hdd0.small
 have hdd1s : _ * 40 ≤ _ := hdd1.small
 refine zi (args := [.agg (d.cells dd0 dd1).toArray]) Tryz.func6 rfl rfl ?_
 refine za (R0 fun _ => st (zH (v := .agg (d.cells dd0 dd1).toArray) rfl ?_))
 intro w3 b2 m
 have h := hS0.new m
 refine st (aS (.bool false) (zd (za (zv kr (st (zf (k := 2) wT kR rfl rfl (CellsAt.all (h.b0)) (st (cL Tryz.call21 (zbt (d := d) hdd0 hdd1 od h) ?_))))))))
 rintro _ w6 ⟨i, rfl, f⟩
 refine st (yH (a := i) rfl (st (mV (.bool (!i)) (stc (V := .agg (d.cells dd0 dd1).toArray) rfl rfl (fun n => ?_) ?_))))
 have o := n
 try simp only [ze] at o
 exact zf (k := 2) wT kR rfl rfl (CellsAt.all (f.b0)) ⟨rfl, rfl⟩
 cases e : !i
 have hg10r := e
 try simp only [ze] at e
 refine stx rfl rfl (stx rfl rfl (st (zZ (v := .bool false) rfl rfl (st (aS (.bool false) (zd (zk (zG mA (show _ = (.bool false : Value) from rfl) ?_))))))))
 refine ⟨false, rfl, ?_, (f.s1_)⟩
 intro j
 cases j
 try simp only [ze] at e
 refine sty rfl rfl (cL Tryz.call22 (JE (d := d) hdd0 hdd1 od f) ?_)
 rintro _ w15 ⟨c, rfl, hin13, g, l⟩
 refine sty rfl rfl (zN (k := .i64) (a := c) (b := 0) rfl rfl (st (zQ (v := .bool (decide (c = 0))) rfl rfl (st (aS (.bool (decide (c = 0))) (zd (zk (zG mA (show _ = (.bool (decide (c = 0)) : Value) from rfl) ?_))))))))
 refine ⟨decide (c = 0), rfl, ?_, (l.s1_)⟩
 intro j
 exact g (by simpa using j)

theorem KK {G : Nat → Prop} {W w : World} {Rs : List HP} {e : Ev} {de0 : Value} (hde0 : RdS W G de0 e.deps) (oe : e.Ok) {n : Int} (hn : InR n) (hS0 : Sep G W Rs w) : Ret Tryz.prog 24 [.agg (e.cells de0).toArray, .int .i64 (n)] w (fun r w' => ∃ (c : Int), r = (.int .i64 (c) : Value) ∧ (InR c) ∧ (c = 0 → XZ e n) ∧ Sep G W Rs w') := by
 have hde0s : _ * 8 ≤ _ := hde0.small
 refine zi (args := [.agg (e.cells de0).toArray, Iv n]) Tryz.func24 rfl rfl ?_
 refine za (R0 fun _ => st (zH (v := .agg (e.cells de0).toArray) rfl ?_))
 intro w3 b2 bi
 have f := hS0.new bi
 refine st (aS (Iv 0) (zd (za (za (zv kr (st (yy rfl (st (xz rfl (st (lD (Iv (e.origin)) kT rfl (zb (f.b0) rfl) (st (zF (k := .i64) (a := e.origin) (b := 0) rfl rfl (st (mV (.bool (decide (e.origin < 0))) (stc (V := Ix b2 0) rfl rfl (fun bj => ?_) ?_))))))))))))))))
 have hl6 := fD bj
 exact yy rfl ⟨rfl, rfl⟩
 refine stc (V := Ix b2 0) rfl rfl (fun aE => ?_) ?_
 have hl8 := fD aE
 exact xz (if_pos aE) ⟨rfl, rfl⟩
 refine stc (V := Iv (e.origin)) rfl rfl (fun aF => ?_) ?_
 have hl10 := fD aF
 exact lD (Iv (e.origin)) kT (if_pos aF) (zb (f.b0) rfl) ⟨rfl, rfl⟩
 refine stc (V := Iv n) rfl rfl (fun aG => ?_) ?_
 have hl12 := fD aG
 exact mV (Iv n) ⟨rfl, rfl⟩
 refine stc (V := .bool (decide (n ≤ e.origin))) rfl rfl (fun p => ?_) ?_
 have hl14 := fD p
 exact xo (k := .i64) (a := e.origin) (b := n) (if_pos p) (if_pos p) ⟨rfl, rfl⟩
 refine st (zo (b := decide (e.origin < 0)) (b' := decide (n ≤ e.origin)) rfl (fun hbp => (if_pos hbp)) (st (mV (.bool ((decide (e.origin < 0)) || (decide (n ≤ e.origin)))) (stc (V := Ix b2 0) rfl rfl (fun aH => ?_) ?_))))
 have aI := aH
 try simp only [ze] at aI
 exact yy rfl ⟨rfl, rfl⟩
 refine stc (V := Ix b2 1) rfl rfl (fun K => ?_) ?_
 have aJ := K
 try simp only [ze] at aJ
 exact Zk (if_pos K) ⟨rfl, rfl⟩
 refine stc (V := Iv (e.seq)) rfl rfl (fun L => ?_) ?_
 have aK := L
 try simp only [ze] at aK
 exact lD (Iv (e.seq)) kT (if_pos L) (zb (f.b0) rfl) ⟨rfl, rfl⟩
 refine stc (V := .bool (decide (e.seq < 1))) rfl rfl (fun M => ?_) ?_
 have aL := M
 try simp only [ze] at aL
 exact zF (k := .i64) (a := e.seq) (b := 1) (if_pos M) rfl ⟨rfl, rfl⟩
 refine st (zo (b := (decide (e.origin < 0)) || (decide (n ≤ e.origin))) (b' := decide (e.seq < 1)) rfl (fun hbp => (if_pos hbp)) (st (mV (.bool (((decide (e.origin < 0)) || (decide (n ≤ e.origin))) || (decide (e.seq < 1)))) (stc (V := Ix b2 2) rfl rfl (fun aM => ?_) ?_))))
 have aN := aM
 try simp only [ze] at aN
 exact Zc rfl ⟨rfl, rfl⟩
 refine stc (V := Iv (e.lam)) rfl rfl (fun N => ?_) ?_
 have aO := N
 try simp only [ze] at aO
 exact lD (Iv (e.lam)) kT (if_pos N) (zb (f.b0) rfl) ⟨rfl, rfl⟩
 refine stc (V := .bool (decide (e.lam < 1))) rfl rfl (fun O => ?_) ?_
 have aP := O
 try simp only [ze] at aP
 exact zF (k := .i64) (a := e.lam) (b := 1) (if_pos O) rfl ⟨rfl, rfl⟩
 refine st (zo (b := ((decide (e.origin < 0)) || (decide (n ≤ e.origin))) || (decide (e.seq < 1))) (b' := decide (e.lam < 1)) rfl (fun hbp => (if_pos hbp)) (st (mV (.bool ((((decide (e.origin < 0)) || (decide (n ≤ e.origin))) || (decide (e.seq < 1))) || (decide (e.lam < 1)))) (stc (V := Ix b2 5) rfl rfl (fun aQ => ?_) ?_))))
 have aR := aQ
 try simp only [ze] at aR
 exact Xf rfl ⟨rfl, rfl⟩
 refine stc (V := Iv (e.agg)) rfl rfl (fun P => ?_) ?_
 have aT := P
 try simp only [ze] at aT
 exact lD (Iv (e.agg)) kT (if_pos P) (zb (f.b0) rfl) ⟨rfl, rfl⟩
 refine stc (V := .bool (decide (e.agg < 0))) rfl rfl (fun Q => ?_) ?_
 have aU := Q
 try simp only [ze] at aU
 exact zF (k := .i64) (a := e.agg) (b := 0) (if_pos Q) rfl ⟨rfl, rfl⟩
 refine st (zo (b := (((decide (e.origin < 0)) || (decide (n ≤ e.origin))) || (decide (e.seq < 1))) || (decide (e.lam < 1))) (b' := decide (e.agg < 0)) rfl (fun hbp => (if_pos hbp)) (st (mV (.bool (((((decide (e.origin < 0)) || (decide (n ≤ e.origin))) || (decide (e.seq < 1))) || (decide (e.lam < 1))) || (decide (e.agg < 0)))) (stc (V := Ix b2 9) rfl rfl (fun aV => ?_) ?_))))
 have aW := aV
 try simp only [ze] at aW
 exact XB rfl ⟨rfl, rfl⟩
 refine stc (V := Iv (e.key)) rfl rfl (fun R => ?_) ?_
 have aX := R
 try simp only [ze] at aX
 exact lD (Iv (e.key)) kT (if_pos R) (zb (f.b0) rfl) ⟨rfl, rfl⟩
 refine stc (V := .bool (decide (e.key < 0))) rfl rfl (fun S => ?_) ?_
 have aY := S
 try simp only [ze] at aY
 exact zF (k := .i64) (a := e.key) (b := 0) (if_pos S) rfl ⟨rfl, rfl⟩
 refine st (zo (b := ((((decide (e.origin < 0)) || (decide (n ≤ e.origin))) || (decide (e.seq < 1))) || (decide (e.lam < 1))) || (decide (e.agg < 0))) (b' := decide (e.key < 0)) rfl (fun hbp => (if_pos hbp)) (st (mV (.bool ((((((decide (e.origin < 0)) || (decide (n ≤ e.origin))) || (decide (e.seq < 1))) || (decide (e.lam < 1))) || (decide (e.agg < 0))) || (decide (e.key < 0)))) (stc (V := Ix b2 3) rfl rfl (fun aZ => ?_) ?_))))
 have ba := aZ
 try simp only [ze] at ba
 exact xc rfl ⟨rfl, rfl⟩
 refine stc (V := de0) rfl rfl (fun T => ?_) ?_
 have bb := T
 try simp only [ze] at bb
 exact lD de0 uT (if_pos T) (zb (f.b0) rfl) ⟨rfl, rfl⟩
 refine stc (V := Iw e.deps.length) rfl rfl (fun U => ?_) ?_
 have bc := U
 try simp only [ze] at bc
 exact zL (n := e.deps.length) sT (if_pos U) hde0.sl ⟨rfl, rfl⟩
 refine stc (V := Iv n) rfl rfl (fun bd => ?_) ?_
 have be := bd
 try simp only [ze] at be
 exact mV (Iv n) ⟨rfl, rfl⟩
 refine stc (V := .bool (!decide (((e.deps.length : Nat) : Int) = n))) rfl rfl (fun q => ?_) ?_
 have bf := q
 try simp only [ze] at bf
 exact yr (k := .i64) (a := ((e.deps.length : Nat) : Int)) (b := n) (if_pos q) (if_pos q) ⟨rfl, rfl⟩
 refine st (zo (b := (((((decide (e.origin < 0)) || (decide (n ≤ e.origin))) || (decide (e.seq < 1))) || (decide (e.lam < 1))) || (decide (e.agg < 0))) || (decide (e.key < 0))) (b' := !decide (((e.deps.length : Nat) : Int) = n)) rfl (fun hbp => (if_pos hbp)) (zd ?_))
 cases X : ((((((decide (e.origin < 0)) || (decide (n ≤ e.origin))) || (decide (e.seq < 1))) || (decide (e.lam < 1))) || (decide (e.agg < 0))) || (decide (e.key < 0))) || (!decide (((e.deps.length : Nat) : Int) = n))
 try simp only [ze] at X
 refine zg rfl (zl (za (za (R0 fun _ => st (aS (Iv 0) (zd (zw (yh (fun mq σ wq => ∃ (k : Nat) (ρ : Env), mq = e.deps.length - k ∧ σ = ye ρ [(1, Iv n), (2, Ix b2 0), (5, Iw k)] ∧ (k ≤ e.deps.length) ∧ (∀ i, i < k → 0 ≤ e.deps.getD i 0) ∧ Sep G W ((Blk b2 (e.cells de0).toArray 41) :: Rs) wq) ⟨0, _, rfl, sSf, Nat.zero_le _, (fun i h => absurd h (Nat.not_lt_zero i)), f⟩ ?_))))))))
 rintro m53 σ54 w52 ⟨k, ρl1, rfl, rfl, hkk, hm, m⟩
 refine za (za (R0 fun _ => st (mV (Iw k) (st (mV (Iv n) (st (zF (k := .i64) (a := ((k : Nat) : Int)) (b := n) rfl rfl (zd ?_))))))))
 cases o : decide (((k : Nat) : Int) < n)
 have o := fD o
 refine zg rfl (yi (yb (za (za ?_))))
 refine WD4 (WF [fun vals wq => Sep G W ((Blk b2 (e.cells de0).toArray 41) :: Rs) wq]) (AF [Vl 0 (Ix b2 3), Vl 1 (de0), Vl 2 (Ix b2 0), Vl 3 (Ix b2 0), Vl 4 (Iv (e.origin)), Vl 5 (Ix (sb de0) (so de0 + e.origin.toNat * 1)), Vl 6 (Iv ((e.deps.getD e.origin.toNat 0))), Vl 7 (Ix b2 0), Vl 8 (Ix b2 1), Vl 9 (Iv (e.seq)), Vl 10 (Iv (e.seq - 1)), Vl 11 (.bool (!decide ((e.deps.getD e.origin.toNat 0) = (e.seq - 1))))]) [[], [0], [], [2], [2, 3], (rg 5), (rg 6), [], [7], [7, 8], [7, 8, 9], (rg 11)] [] [(0, 0), (0, 0), (0, 0), (0, 0), (0, 0), (0, 0), (0, 0), (0, 0), (0, 0), (0, 0), (0, 0), (0, 0)] m ⟨fun _ _ _ _ _ _ _ => obl rfl (xc rfl dR), ob1 0 fun _ _ (ac : Sep _ _ _ _) ad => obl rfl (lD de0 uT (ad 0 dc) (zb (ac.b0) rfl) dR), fun _ _ _ _ _ _ _ => obl rfl (yy rfl dR), fun _ _ _ _ _ _ ae => obl rfl (xz (ae 2 dc) dR), ob1 0 fun _ _ (af : Sep _ _ _ _) ag => obl rfl (lD (Iv (e.origin)) kT (ag 3 dc) (zb (af.b0) rfl) dR), ?_, ?_, fun _ _ _ _ _ _ _ => obl rfl (yy rfl dR), fun _ _ _ _ _ _ ah => obl rfl (Zk (ah 7 dc) dR), ob1 0 fun _ _ (ai : Sep _ _ _ _) aj => obl rfl (lD (Iv (e.seq)) kT (aj 8 dc) (zb (ai.b0) rfl) dR), ?_, ob1 0 fun _ _ _ s => obl rfl (yr (k := .i64) (a := (e.deps.getD e.origin.toNat 0)) (b := e.seq - 1) (s 6 dc) (s 10 dc) dR), trivial⟩ ?_
 refine ob1 0 fun _ _ _ t => (obl rfl ?_)
 have hi196 : e.origin.toNat < e.deps.length := bo
 exact zz (k := 1) (i := e.origin) sT nY (t 1 dc) hde0.sl (t 4 dc) ⟨by omega, by omega⟩ dR
 refine ob1 0 fun _ _ (ak : Sep _ _ _ _) al => (obl rfl ?_)
 have u : e.origin.toNat < e.deps.length := bo
 obtain ⟨Y, hxe205⟩ := hde0.intD u
 have Z := ak.cells Y (hde0.foot (ne_of_lt u))
 exact lD (Iv ((e.deps.getD e.origin.toNat 0))) kT (al 5 dc) (Z.get (j := 0) rfl) dR
 refine ob1 0 fun _ _ _ am => (obl rfl ?_)
 have an : InR (e.seq - 1) := (by have J := oe.seq; omega)
 exact YV (r := e.seq - 1) (k := .i64) (a := e.seq) (b := 1) (am 9 (by decide)) rfl (by rw [show (e.seq - 1 : Int) = e.seq - 1 from rfl]; exact zJ an) dR
 intro vals w247 ao ap
 have d : Sep _ _ _ _ := ao
 have bh := ap 11 dc
 refine zT (kv := [(1, Iv n), (2, Ix b2 0), (5, Iw k), (45, Iw k), (46, Iv n), (47, .bool false), (67, .bool (!decide ((e.deps.getD e.origin.toNat 0) = (e.seq - 1))))]) ⟨rfl, rfl, rfl, rfl, rfl, rfl, (by exact bh), trivial⟩ (fun ρw247 => (zd ?_))
 cases g : !decide ((e.deps.getD e.origin.toNat 0) = (e.seq - 1))
 have g := yp g
 refine zg rfl (zl (za (za (zv kr (st (xK rfl (st (lD (Iv (e.op)) kT rfl (zb (d.b0) rfl) (st (zF (k := .i64) (a := e.op) (b := 1) rfl rfl (st (mV (.bool (decide (e.op < 1))) (stc (V := Ix b2 7) rfl rfl (fun aq => ?_) ?_)))))))))))))
 have hl254 := fD aq
 exact xK rfl ⟨rfl, rfl⟩
 refine stc (V := Iv (e.op)) rfl rfl (fun x => ?_) ?_
 have hl256 := fD x
 exact lD (Iv (e.op)) kT (if_pos x) (zb (d.b0) rfl) ⟨rfl, rfl⟩
 refine stc (V := .bool (decide (5 < e.op))) rfl rfl (fun y => ?_) ?_
 have hl258 := fD y
 exact yM (k := .i64) (a := e.op) (b := 5) (if_pos y) rfl ⟨rfl, rfl⟩
 refine st (zo (b := decide (e.op < 1)) (b' := decide (5 < e.op)) rfl (fun hbp => (if_pos hbp)) (zd ?_))
 cases z : (decide (e.op < 1)) || (decide (5 < e.op))
 try simp only [ze] at z
 refine zg rfl (zl (za (za (zv kr (st (Zh rfl (st (lD (Iv (e.typ)) kT rfl (zb (d.b0) rfl) (st (zF (k := .i64) (a := e.typ) (b := 0) rfl rfl (st (mV (.bool (decide (e.typ < 0))) (stc (V := Ix b2 4) rfl rfl (fun ar => ?_) ?_)))))))))))))
 have hl261 := fD ar
 exact Zh rfl ⟨rfl, rfl⟩
 refine stc (V := Iv (e.typ)) rfl rfl (fun A => ?_) ?_
 have hl263 := fD A
 exact lD (Iv (e.typ)) kT (if_pos A) (zb (d.b0) rfl) ⟨rfl, rfl⟩
 refine stc (V := .bool (decide (7 < e.typ))) rfl rfl (fun B => ?_) ?_
 have hl265 := fD B
 exact yM (k := .i64) (a := e.typ) (b := 7) (if_pos B) rfl ⟨rfl, rfl⟩
 refine st (zo (b := decide (e.typ < 0)) (b' := decide (7 < e.typ)) rfl (fun hbp => (if_pos hbp)) (st (mV (.bool ((decide (e.typ < 0)) || (decide (7 < e.typ)))) (stc (V := Ix b2 6) rfl rfl (fun au => ?_) ?_))))
 have av := au
 try simp only [ze] at av
 exact xF rfl ⟨rfl, rfl⟩
 refine stc (V := Iv (e.field)) rfl rfl (fun C => ?_) ?_
 have aw := C
 try simp only [ze] at aw
 exact lD (Iv (e.field)) kT (if_pos C) (zb (d.b0) rfl) ⟨rfl, rfl⟩
 refine stc (V := .bool (decide (e.field < 0))) rfl rfl (fun D => ?_) ?_
 have ax := D
 try simp only [ze] at ax
 exact zF (k := .i64) (a := e.field) (b := 0) (if_pos D) rfl ⟨rfl, rfl⟩
 refine st (zo (b := (decide (e.typ < 0)) || (decide (7 < e.typ))) (b' := decide (e.field < 0)) rfl (fun hbp => (if_pos hbp)) (st (mV (.bool (((decide (e.typ < 0)) || (decide (7 < e.typ))) || (decide (e.field < 0)))) (stc (V := Ix b2 6) rfl rfl (fun ay => ?_) ?_))))
 have az := ay
 try simp only [ze] at az
 exact xF rfl ⟨rfl, rfl⟩
 refine stc (V := Iv (e.field)) rfl rfl (fun E => ?_) ?_
 have aA := E
 try simp only [ze] at aA
 exact lD (Iv (e.field)) kT (if_pos E) (zb (d.b0) rfl) ⟨rfl, rfl⟩
 refine stc (V := .bool (decide (7 < e.field))) rfl rfl (fun F => ?_) ?_
 have aB := F
 try simp only [ze] at aB
 exact yM (k := .i64) (a := e.field) (b := 7) (if_pos F) rfl ⟨rfl, rfl⟩
 refine st (zo (b := ((decide (e.typ < 0)) || (decide (7 < e.typ))) || (decide (e.field < 0))) (b' := decide (7 < e.field)) rfl (fun hbp => (if_pos hbp)) (zd ?_))
 cases H : (((decide (e.typ < 0)) || (decide (7 < e.typ))) || (decide (e.field < 0))) || (decide (7 < e.field))
 try simp only [ze] at H
 refine zg rfl (zl (za (R0 fun _ => st (aS (Iv 0) (zd (zk (zG vT (show _ = (Iv 0 : Value) from rfl) ?_)))))))
 refine ⟨0, rfl, ?_, ?_, (d.s1_)⟩
 decide
 intro J
 exact ⟨⟨by omega, by omega, by omega, by omega⟩, fun i hi => hm i om⟩
 try simp only [ze] at H
 refine zh rfl (za (R0 fun _ => st (aS (Iv 8) (zd (zk (zG vT (show _ = (Iv 8 : Value) from rfl) ?_))))))
 refine ⟨8, rfl, ?_, ?_, (d.s1_)⟩
 decide
 intro J
 omega
 try simp only [ze] at z
 refine zh rfl (za (R0 fun _ => st (aS (Iv 2) (zd (zk (zG vT (show _ = (Iv 2 : Value) from rfl) ?_))))))
 refine ⟨2, rfl, ?_, ?_, (d.s1_)⟩
 decide
 intro J
 omega
 have g := zC g
 refine zh rfl (za (R0 fun _ => st (aS (Iv 9) (zd (zk (zG vT (show _ = (Iv 9 : Value) from rfl) ?_))))))
 refine ⟨9, rfl, ?_, ?_, (d.s1_)⟩
 decide
 intro J
 omega
 have o := tD o
 refine zh rfl (zl (za (zw (za (R0 fun _ => st (xc rfl (st (lD de0 uT rfl (zb (m.b0) rfl) (st (mV (Iw k) ?_))))))))))
 have aC : k < e.deps.length := bo
 refine st (zn (k := 1) (i := k) sT nY rfl hde0.sl rfl aC ?_)
 have I : k < e.deps.length := bo
 obtain ⟨aa, hxe284⟩ := hde0.intD I
 have ab := m.cells aa (hde0.foot (ne_of_lt I))
 refine st (lD (Iv ((e.deps.getD k 0))) kT rfl (ab.get (j := 0) rfl) (st (zF (k := .i64) (a := (e.deps.getD k 0)) (b := 0) rfl rfl (zd ?_))))
 cases l : decide ((e.deps.getD k 0) < 0)
 have l := fD l
 refine zg rfl (zl (R0 fun _ => st (mV (Iw k) ?_)))
 have aD : InR ((k + 1 : Nat) : Int) := bo
 refine st (zV (r := ((k + 1 : Nat) : Int)) (k := .i64) (a := ((k : Nat) : Int)) (b := 1) rfl rfl (by rw [show (((k : Nat) : Int) + 1 : Int) = ((k + 1 : Nat) : Int) from bo]; exact zJ aD) (st (aS (Iw (k + 1)) (zd ?_))))
 exact ⟨_, by omega, k + 1, _, rfl, sSf, by omega, (yU hm om), m⟩
 have l := tD l
 refine zh rfl (za (R0 fun _ => st (aS (Iv 1) (zd (zk (zG vT (show _ = (Iv 1 : Value) from rfl) ?_))))))
 refine ⟨1, rfl, ?_, ?_, (m.s1_)⟩
 decide
 intro J
 omega
 try simp only [ze] at X
 refine zh rfl (za (R0 fun _ => st (aS (Iv 1) (zd (zk (zG vT (show _ = (Iv 1 : Value) from rfl) ?_))))))
 refine ⟨1, rfl, ?_, ?_, (f.s1_)⟩
 decide
 intro J
 omega

theorem KQ {G : Nat → Prop} {W w : World} {Rs : List HP} {n : Int} (hn : InR n) {vl : Value} {l : List Ev} (hl : RdS W G vl l) (hS0 : Sep G W Rs w) : Ret Tryz.prog 9 [.int .i64 (n), vl] w (fun r w' => ∃ (v : Value) (l2 : List Ev), r = (v : Value) ∧ (l2.length ≤ 60) ∧ (∀ i, i < l2.length → XZ (l2.getD i default) n) ∧ Sep G W ((RowE (α := Ev) (shr G W) 41 v l2) :: Rs) w') := by
 have hls : _ * 96 ≤ _ := hl.small
 refine zi (args := [Iv n, vl]) Tryz.func9 rfl rfl ?_
 refine za (R0 fun _ => st (aS (Iz) (zd (za (R0 fun _ => st (aS (Iz) (zd (za (za (R0 fun _ => st (aS (Iv 0) (zd (zw ?_)))))))))))))
 have aa : Sep G W ((RowE (α := Ev) (shr G W) 41 (Iz) ([] : List Ev)) :: Rs) w := hS0.rowNil (shr G W) 41
 refine yh (fun mq σ wq => ∃ (k : Nat) (vo : Value) (l2 : List Ev) (ρ : Env), mq = l.length - k ∧ σ = ye ρ [(0, Iv n), (1, vl), (5, vo), (6, Iw k)] ∧ (k ≤ l.length) ∧ (l2.length ≤ 60) ∧ (∀ i, i < l2.length → XZ (l2.getD i default) n) ∧ Sep G W ((RowE (α := Ev) (shr G W) 41 vo l2) :: Rs) wq) ⟨0, (Iz), [], _, rfl, sSf, Nat.zero_le _, Nat.zero_le _, (fun i h => absurd h (Nat.not_lt_zero i)), aa⟩ ?_
 rintro m3 σ4 w2 ⟨k, vo, l2, ρl1, rfl, rfl, hkk, u, hft, g⟩
 let ac := zP W (sb vl) (so vl + k * 10 + 3)
 have J := g.r0
 have hr6s : _ * 96 ≤ _ := J.2
 refine za (za (zv kr (st (mV (Iw k) (st (mV vl (st (zL (n := l.length) oT rfl hl.sl (st (zF (k := .i64) (a := ((k : Nat) : Int)) (b := ((l.length : Nat) : Int)) rfl rfl (st (mV (.bool (decide (((k : Nat) : Int) < ((l.length : Nat) : Int)))) (stc (V := vo) rfl rfl (fun ab => ?_) ?_)))))))))))))
 have hl8 := tD ab
 exact mV vo ⟨rfl, rfl⟩
 refine stc (V := Iw l2.length) rfl rfl (fun K => ?_) ?_
 have hl10 := tD K
 exact zL (n := l2.length) oT (if_pos K) J.1 ⟨rfl, rfl⟩
 refine stc (V := .bool (decide (((l2.length : Nat) : Int) < 60))) rfl rfl (fun x => ?_) ?_
 have hl12 := tD x
 exact zF (k := .i64) (a := ((l2.length : Nat) : Int)) (b := 60) (if_pos x) rfl ⟨rfl, rfl⟩
 refine st (zy (b := decide (((k : Nat) : Int) < ((l.length : Nat) : Int))) (b' := decide (((l2.length : Nat) : Int) < 60)) rfl (fun hbp => (if_pos hbp)) (zd ?_))
 cases y : (decide (((k : Nat) : Int) < ((l.length : Nat) : Int))) && (decide (((l2.length : Nat) : Int) < 60))
 try simp only [ze] at y
 refine zg rfl (yi (yb (za (R0 fun _ => st (mV vo (st (aS vo (zd (zk (zG Tryz.results9 (show _ = (vo : Value) from rfl) ?_))))))))))
 refine ⟨vo, l2, rfl, ?_, ?_, g⟩
 exact u
 exact hft
 try simp only [ze] at y
 refine zh rfl (zl (za (zw (za (zv kr (st (mV vl (st (mV (Iw k) ?_)))))))))
 have M : k < l.length := bo
 refine st (zn (k := 10) (i := k) oT lT rfl hl.sl rfl M (st (xc rfl ?_)))
 have m : k < l.length := bo
 obtain ⟨o, d, q⟩ := hl.evD m
 have hsm17 : ((l.getD k default).deps).length * 8 ≤ 140737488355328 := d.small
 have D := g.cells o (hl.foot (ne_of_lt m))
 refine st (lD ac uT rfl (D.get (j := 3) rfl) (st (zL (n := ((l.getD k default).deps).length) sT rfl d.sl (st (mV (Iv n) (st (zN (k := .i64) (a := ((((l.getD k default).deps).length : Nat) : Int)) (b := n) rfl rfl (st (mV (.bool (decide (((((l.getD k default).deps).length : Nat) : Int) = n))) (stc (V := vl) rfl rfl (fun N => ?_) ?_))))))))))
 have hl20 := tD N
 exact mV vl ⟨rfl, rfl⟩
 refine stc (V := Iw k) rfl rfl (fun O => ?_) ?_
 have hl22 := tD O
 exact mV (Iw k) ⟨rfl, rfl⟩
 refine stc (V := Ix (sb vl) (so vl + k * 10)) rfl rfl (fun s => ?_) ?_
 have hl24 := tD s
 have Q : k < l.length := bo
 exact zn (k := 10) (i := k) oT lT (if_pos s) hl.sl (if_pos s) Q ⟨rfl, rfl⟩
 refine stc (V := .agg ((l.getD k default).cells ac).toArray) rfl rfl (fun z => ?_) ?_
 have hl27 := tD z
 have E := g.cells o (hl.foot (ne_of_lt m))
 exact zf (k := 10) qT lT rfl (if_pos z) E ⟨rfl, rfl⟩
 refine stc (V := Iv n) rfl rfl (fun R => ?_) ?_
 have hl31 := tD R
 exact mV (Iv n) ⟨rfl, rfl⟩
 cases f : decide (((((l.getD k default).deps).length : Nat) : Int) = n)
 have hg32r := f
 have f := fD f
 refine stx rfl rfl (stx rfl rfl (st (zZ (v := .bool false) rfl rfl (zd (zg rfl (zl (R0 fun _ => st (mV (Iw k) ?_))))))))
 have S : InR ((k + 1 : Nat) : Int) := bo
 refine st (zV (r := ((k + 1 : Nat) : Int)) (k := .i64) (a := ((k : Nat) : Int)) (b := 1) rfl rfl (by rw [show (((k : Nat) : Int) + 1 : Int) = ((k + 1 : Nat) : Int) from bo]; exact zJ S) (st (aS (Iw (k + 1)) (zd ?_))))
 exact ⟨_, by omega, k + 1, vo, l2, _, rfl, sSf, by omega, u, hft, g⟩
 have f := tD f
 refine sty rfl rfl (cL Tryz.call24 (KK (e := (l.getD k default)) (n := n) d q hn g) ?_)
 rintro _ w37 ⟨A, rfl, hc935, F, t⟩
 refine sty rfl rfl (zN (k := .i64) (a := A) (b := 0) rfl rfl (st (zQ (v := .bool (decide (A = 0))) rfl rfl (zd ?_))))
 cases p : decide (A = 0)
 have p := fD p
 refine zg rfl (zl (R0 fun _ => st (mV (Iw k) ?_)))
 have T : InR ((k + 1 : Nat) : Int) := bo
 refine st (zV (r := ((k + 1 : Nat) : Int)) (k := .i64) (a := ((k : Nat) : Int)) (b := 1) rfl rfl (by rw [show (((k : Nat) : Int) + 1 : Int) = ((k + 1 : Nat) : Int) from bo]; exact zJ T) (st (aS (Iw (k + 1)) (zd ?_))))
 exact ⟨_, by omega, k + 1, vo, l2, _, rfl, sSf, by omega, u, hft, t⟩
 have p := tD p
 refine zh rfl (R0 fun _ => st (mV vo (st (mV vl (st (mV (Iw k) ?_))))))
 have U : k < l.length := bo
 refine st (zn (k := 10) (i := k) oT lT rfl hl.sl rfl U ?_)
 have H := t.cells o (hl.foot (ne_of_lt m))
 refine st (zf (k := 10) qT lT rfl rfl H (st (zS (k := 10) (parts' := [(0, .agg ((l.getD k default).cells ac).toArray)]) (c := ((l.getD k default).cells ac).toArray) oT lT tR dc rfl kr ?_)))
 intro w46 b45 X
 have B := t.new X
 have I := B.b0
 refine st (xb (src := (shr G W)) (bytes := 96) (x1 := (l.getD k default)) ((B.s2_b).emp1) zbj rfl rfl I (fun _ _ _ => (show _ from ⟨_, rfl, d, q⟩)) yqb rfl ?_)
 intro L w48 C
 have Y := C.r0
 have hr54s : _ * 96 ≤ _ := Y.2
 refine st (aS L (zd (R0 fun _ => st (mV (Iw k) ?_))))
 have Z : InR ((k + 1 : Nat) : Int) := bo
 refine st (zV (r := ((k + 1 : Nat) : Int)) (k := .i64) (a := ((k : Nat) : Int)) (b := 1) rfl rfl (by rw [show (((k : Nat) : Int) + 1 : Int) = ((k + 1 : Nat) : Int) from bo]; exact zJ Z) (st (aS (Iw (k + 1)) (zd ?_))))
 exact ⟨_, by omega, k + 1, L, (l2 ++ [(l.getD k default)]), _, rfl, sSf, by omega, (by rw [List.length_append, List.length_singleton]; omega), (Kg (P := fun e => XZ e n) hft (F (by omega))), C⟩

theorem xO {G : Nat → Prop} {W w : World} {Rs : List HP} {a : Ev} {da0 : Value} (hda0 : RdS W G da0 a.deps) (oa : a.Ok) {b : Ev} {db0 : Value} (hdb0 : RdS W G db0 b.deps) (ob : b.Ok) (hS0 : Sep G W Rs w) : Ret Tryz.prog 17 [.agg (a.cells da0).toArray, .agg (b.cells db0).toArray] w (fun r w' => r = (.bool (decide (a = b)) : Value) ∧ Sep G W Rs w') := by
 have hda0s : _ * 8 ≤ _ := hda0.small
 have hdb0s : _ * 8 ≤ _ := hdb0.small
 refine zi (args := [.agg (a.cells da0).toArray, .agg (b.cells db0).toArray]) Tryz.func17 rfl rfl ?_
 refine za (R0 fun _ => st (zH (v := .agg (a.cells da0).toArray) rfl ?_))
 intro w3 b2 aX
 refine st (zH (v := .agg (b.cells db0).toArray) rfl ?_)
 intro w7 g aY
 have d := (hS0.new aX).new aY
 refine st (aS (.bool false) (zd (za (zv kr (st (yy rfl (st (zf (k := 2) (cs := [Iv (a.origin), Iv (a.seq)]) nT mT rfl rfl (CellsAt.sub (CellsAt.all (d.b1)) 0 (cs2 := [Iv (a.origin), Iv (a.seq)]) rfl) (st (yy rfl (st (zf (k := 2) (cs := [Iv (b.origin), Iv (b.seq)]) nT mT rfl rfl (CellsAt.sub (CellsAt.all (d.b0)) 0 (cs2 := [Iv (b.origin), Iv (b.seq)]) rfl) (st (Yl (e := decide (a.origin = b.origin ∧ a.seq = b.seq)) (xs := #[Iv (a.origin), Iv (a.seq)]) (ys := #[Iv (b.origin), Iv (b.seq)]) eqS38 rfl rfl (st (mV (.bool (decide (a.origin = b.origin ∧ a.seq = b.seq))) (stc (V := Ix b2 2) rfl rfl (fun aZ => ?_) ?_)))))))))))))))))
 have hl10 := tD aZ
 exact Zc rfl ⟨rfl, rfl⟩
 refine stc (V := Iv (a.lam)) rfl rfl (fun q => ?_) ?_
 have hl12 := tD q
 exact lD (Iv (a.lam)) kT (if_pos q) (zb (d.b1) rfl) ⟨rfl, rfl⟩
 refine stc (V := Ix g 2) rfl rfl (fun M => ?_) ?_
 have hl14 := tD M
 exact Zc rfl ⟨rfl, rfl⟩
 refine stc (V := Iv (b.lam)) rfl rfl (fun s => ?_) ?_
 have hl16 := tD s
 exact lD (Iv (b.lam)) kT (if_pos s) (zb (d.b0) rfl) ⟨rfl, rfl⟩
 refine stc (V := .bool (decide (a.lam = b.lam))) rfl rfl (fun h => ?_) ?_
 have hl18 := tD h
 exact zN (k := .i64) (a := a.lam) (b := b.lam) (if_pos h) (if_pos h) ⟨rfl, rfl⟩
 refine st (zy (b := decide (a.origin = b.origin ∧ a.seq = b.seq)) (b' := decide (a.lam = b.lam)) rfl (fun hbp => (if_pos hbp)) (st (mV (.bool ((decide (a.origin = b.origin ∧ a.seq = b.seq)) && (decide (a.lam = b.lam)))) (stc (V := Ix b2 3) rfl rfl (fun N => ?_) ?_))))
 have O := N
 try simp only [ze] at O
 exact xc rfl ⟨rfl, rfl⟩
 refine stc (V := da0) rfl rfl (fun t => ?_) ?_
 have P := t
 try simp only [ze] at P
 exact lD da0 uT (if_pos t) (zb (d.b1) rfl) ⟨rfl, rfl⟩
 refine stc (V := Ix g 3) rfl rfl (fun Q => ?_) ?_
 have R := Q
 try simp only [ze] at R
 exact xc rfl ⟨rfl, rfl⟩
 refine stc (V := db0) rfl rfl (fun u => ?_) ?_
 have S := u
 try simp only [ze] at S
 exact lD db0 uT (if_pos u) (zb (d.b0) rfl) ⟨rfl, rfl⟩
 refine stcw (V := .bool (decide (a.deps = b.deps))) (fun _ wq => Sep G W ((Blk g (b.cells db0).toArray 41) :: (Blk b2 (a.cells da0).toArray 41) :: Rs) wq) d rfl rfl (fun i => ?_) (fun w31 c => ?_)
 have T := i
 try simp only [ze] at T
 refine (zB (f := 42) (vals := [da0, db0]) (cap := []) rfl (yE ⟨(if_pos i), (if_pos i), trivial⟩) Tryz.call42 (VP (a := a.deps) (va := da0) (b := b.deps) (vb := db0) hda0 hdb0 d) ?_)
 rintro _ w29 ⟨rfl, U⟩
 exact ⟨rfl, U⟩
 refine st (zy (b := (decide (a.origin = b.origin ∧ a.seq = b.seq)) && (decide (a.lam = b.lam))) (b' := decide (a.deps = b.deps)) rfl (fun hbp => (if_pos hbp)) (st (mV (.bool (((decide (a.origin = b.origin ∧ a.seq = b.seq)) && (decide (a.lam = b.lam))) && (decide (a.deps = b.deps)))) (stc (V := Ix b2 4) rfl rfl (fun X => ?_) ?_))))
 have Y := X
 try simp only [ze] at Y
 exact Zh rfl ⟨rfl, rfl⟩
 refine stc (V := Iv (a.typ)) rfl rfl (fun x => ?_) ?_
 have Z := x
 try simp only [ze] at Z
 exact lD (Iv (a.typ)) kT (if_pos x) (zb (c.b1) rfl) ⟨rfl, rfl⟩
 refine stc (V := Ix g 4) rfl rfl (fun aa => ?_) ?_
 have ab := aa
 try simp only [ze] at ab
 exact Zh rfl ⟨rfl, rfl⟩
 refine stc (V := Iv (b.typ)) rfl rfl (fun y => ?_) ?_
 have ac := y
 try simp only [ze] at ac
 exact lD (Iv (b.typ)) kT (if_pos y) (zb (c.b0) rfl) ⟨rfl, rfl⟩
 refine stc (V := .bool (decide (a.typ = b.typ))) rfl rfl (fun j => ?_) ?_
 have ad := j
 try simp only [ze] at ad
 exact zN (k := .i64) (a := a.typ) (b := b.typ) (if_pos j) (if_pos j) ⟨rfl, rfl⟩
 refine st (zy (b := ((decide (a.origin = b.origin ∧ a.seq = b.seq)) && (decide (a.lam = b.lam))) && (decide (a.deps = b.deps))) (b' := decide (a.typ = b.typ)) rfl (fun hbp => (if_pos hbp)) (st (mV (.bool ((((decide (a.origin = b.origin ∧ a.seq = b.seq)) && (decide (a.lam = b.lam))) && (decide (a.deps = b.deps))) && (decide (a.typ = b.typ)))) (stc (V := Ix b2 5) rfl rfl (fun ae => ?_) ?_))))
 have af := ae
 try simp only [ze] at af
 exact Xf rfl ⟨rfl, rfl⟩
 refine stc (V := Iv (a.agg)) rfl rfl (fun z => ?_) ?_
 have ag := z
 try simp only [ze] at ag
 exact lD (Iv (a.agg)) kT (if_pos z) (zb (c.b1) rfl) ⟨rfl, rfl⟩
 refine stc (V := Ix g 5) rfl rfl (fun ah => ?_) ?_
 have ai := ah
 try simp only [ze] at ai
 exact Xf rfl ⟨rfl, rfl⟩
 refine stc (V := Iv (b.agg)) rfl rfl (fun A => ?_) ?_
 have aj := A
 try simp only [ze] at aj
 exact lD (Iv (b.agg)) kT (if_pos A) (zb (c.b0) rfl) ⟨rfl, rfl⟩
 refine stc (V := .bool (decide (a.agg = b.agg))) rfl rfl (fun l => ?_) ?_
 have ak := l
 try simp only [ze] at ak
 exact zN (k := .i64) (a := a.agg) (b := b.agg) (if_pos l) (if_pos l) ⟨rfl, rfl⟩
 refine st (zy (b := (((decide (a.origin = b.origin ∧ a.seq = b.seq)) && (decide (a.lam = b.lam))) && (decide (a.deps = b.deps))) && (decide (a.typ = b.typ))) (b' := decide (a.agg = b.agg)) rfl (fun hbp => (if_pos hbp)) (st (mV (.bool (((((decide (a.origin = b.origin ∧ a.seq = b.seq)) && (decide (a.lam = b.lam))) && (decide (a.deps = b.deps))) && (decide (a.typ = b.typ))) && (decide (a.agg = b.agg)))) (stc (V := Ix b2 6) rfl rfl (fun al => ?_) ?_))))
 have am := al
 try simp only [ze] at am
 exact xF rfl ⟨rfl, rfl⟩
 refine stc (V := Iv (a.field)) rfl rfl (fun B => ?_) ?_
 have an := B
 try simp only [ze] at an
 exact lD (Iv (a.field)) kT (if_pos B) (zb (c.b1) rfl) ⟨rfl, rfl⟩
 refine stc (V := Ix g 6) rfl rfl (fun ao => ?_) ?_
 have ap := ao
 try simp only [ze] at ap
 exact xF rfl ⟨rfl, rfl⟩
 refine stc (V := Iv (b.field)) rfl rfl (fun C => ?_) ?_
 have aq := C
 try simp only [ze] at aq
 exact lD (Iv (b.field)) kT (if_pos C) (zb (c.b0) rfl) ⟨rfl, rfl⟩
 refine stc (V := .bool (decide (a.field = b.field))) rfl rfl (fun m => ?_) ?_
 have ar := m
 try simp only [ze] at ar
 exact zN (k := .i64) (a := a.field) (b := b.field) (if_pos m) (if_pos m) ⟨rfl, rfl⟩
 refine st (zy (b := ((((decide (a.origin = b.origin ∧ a.seq = b.seq)) && (decide (a.lam = b.lam))) && (decide (a.deps = b.deps))) && (decide (a.typ = b.typ))) && (decide (a.agg = b.agg))) (b' := decide (a.field = b.field)) rfl (fun hbp => (if_pos hbp)) (st (mV (.bool ((((((decide (a.origin = b.origin ∧ a.seq = b.seq)) && (decide (a.lam = b.lam))) && (decide (a.deps = b.deps))) && (decide (a.typ = b.typ))) && (decide (a.agg = b.agg))) && (decide (a.field = b.field)))) (stc (V := Ix b2 7) rfl rfl (fun au => ?_) ?_))))
 have av := au
 try simp only [ze] at av
 exact xK rfl ⟨rfl, rfl⟩
 refine stc (V := Iv (a.op)) rfl rfl (fun D => ?_) ?_
 have aw := D
 try simp only [ze] at aw
 exact lD (Iv (a.op)) kT (if_pos D) (zb (c.b1) rfl) ⟨rfl, rfl⟩
 refine stc (V := Ix g 7) rfl rfl (fun ax => ?_) ?_
 have ay := ax
 try simp only [ze] at ay
 exact xK rfl ⟨rfl, rfl⟩
 refine stc (V := Iv (b.op)) rfl rfl (fun E => ?_) ?_
 have az := E
 try simp only [ze] at az
 exact lD (Iv (b.op)) kT (if_pos E) (zb (c.b0) rfl) ⟨rfl, rfl⟩
 refine stc (V := .bool (decide (a.op = b.op))) rfl rfl (fun n => ?_) ?_
 have aA := n
 try simp only [ze] at aA
 exact zN (k := .i64) (a := a.op) (b := b.op) (if_pos n) (if_pos n) ⟨rfl, rfl⟩
 refine st (zy (b := (((((decide (a.origin = b.origin ∧ a.seq = b.seq)) && (decide (a.lam = b.lam))) && (decide (a.deps = b.deps))) && (decide (a.typ = b.typ))) && (decide (a.agg = b.agg))) && (decide (a.field = b.field))) (b' := decide (a.op = b.op)) rfl (fun hbp => (if_pos hbp)) (st (mV (.bool (((((((decide (a.origin = b.origin ∧ a.seq = b.seq)) && (decide (a.lam = b.lam))) && (decide (a.deps = b.deps))) && (decide (a.typ = b.typ))) && (decide (a.agg = b.agg))) && (decide (a.field = b.field))) && (decide (a.op = b.op)))) (stc (V := Ix b2 8) rfl rfl (fun aB => ?_) ?_))))
 have aC := aB
 try simp only [ze] at aC
 exact Zn rfl ⟨rfl, rfl⟩
 refine stc (V := Iv (a.arg)) rfl rfl (fun F => ?_) ?_
 have aD := F
 try simp only [ze] at aD
 exact lD (Iv (a.arg)) kT (if_pos F) (zb (c.b1) rfl) ⟨rfl, rfl⟩
 refine stc (V := Ix g 8) rfl rfl (fun aE => ?_) ?_
 have aF := aE
 try simp only [ze] at aF
 exact Zn rfl ⟨rfl, rfl⟩
 refine stc (V := Iv (b.arg)) rfl rfl (fun H => ?_) ?_
 have aG := H
 try simp only [ze] at aG
 exact lD (Iv (b.arg)) kT (if_pos H) (zb (c.b0) rfl) ⟨rfl, rfl⟩
 refine stc (V := .bool (decide (a.arg = b.arg))) rfl rfl (fun o => ?_) ?_
 have aH := o
 try simp only [ze] at aH
 exact zN (k := .i64) (a := a.arg) (b := b.arg) (if_pos o) (if_pos o) ⟨rfl, rfl⟩
 refine st (zy (b := ((((((decide (a.origin = b.origin ∧ a.seq = b.seq)) && (decide (a.lam = b.lam))) && (decide (a.deps = b.deps))) && (decide (a.typ = b.typ))) && (decide (a.agg = b.agg))) && (decide (a.field = b.field))) && (decide (a.op = b.op))) (b' := decide (a.arg = b.arg)) rfl (fun hbp => (if_pos hbp)) (st (mV (.bool ((((((((decide (a.origin = b.origin ∧ a.seq = b.seq)) && (decide (a.lam = b.lam))) && (decide (a.deps = b.deps))) && (decide (a.typ = b.typ))) && (decide (a.agg = b.agg))) && (decide (a.field = b.field))) && (decide (a.op = b.op))) && (decide (a.arg = b.arg)))) (stc (V := Ix b2 9) rfl rfl (fun aI => ?_) ?_))))
 have aJ := aI
 try simp only [ze] at aJ
 exact XB rfl ⟨rfl, rfl⟩
 refine stc (V := Iv (a.key)) rfl rfl (fun I => ?_) ?_
 have aK := I
 try simp only [ze] at aK
 exact lD (Iv (a.key)) kT (if_pos I) (zb (c.b1) rfl) ⟨rfl, rfl⟩
 refine stc (V := Ix g 9) rfl rfl (fun aL => ?_) ?_
 have aM := aL
 try simp only [ze] at aM
 exact XB rfl ⟨rfl, rfl⟩
 refine stc (V := Iv (b.key)) rfl rfl (fun J => ?_) ?_
 have aN := J
 try simp only [ze] at aN
 exact lD (Iv (b.key)) kT (if_pos J) (zb (c.b0) rfl) ⟨rfl, rfl⟩
 refine stc (V := .bool (decide (a.key = b.key))) rfl rfl (fun p => ?_) ?_
 have aO := p
 try simp only [ze] at aO
 exact zN (k := .i64) (a := a.key) (b := b.key) (if_pos p) (if_pos p) ⟨rfl, rfl⟩
 refine st (zy (b := (((((((decide (a.origin = b.origin ∧ a.seq = b.seq)) && (decide (a.lam = b.lam))) && (decide (a.deps = b.deps))) && (decide (a.typ = b.typ))) && (decide (a.agg = b.agg))) && (decide (a.field = b.field))) && (decide (a.op = b.op))) && (decide (a.arg = b.arg))) (b' := decide (a.key = b.key)) rfl (fun hbp => (if_pos hbp)) (st (aS (.bool (((((((((decide (a.origin = b.origin ∧ a.seq = b.seq)) && (decide (a.lam = b.lam))) && (decide (a.deps = b.deps))) && (decide (a.typ = b.typ))) && (decide (a.agg = b.agg))) && (decide (a.field = b.field))) && (decide (a.op = b.op))) && (decide (a.arg = b.arg))) && (decide (a.key = b.key)))) (zd (zk (zG Tryz.results17 (show _ = (.bool (((((((((decide (a.origin = b.origin ∧ a.seq = b.seq)) && (decide (a.lam = b.lam))) && (decide (a.deps = b.deps))) && (decide (a.typ = b.typ))) && (decide (a.agg = b.agg))) && (decide (a.field = b.field))) && (decide (a.op = b.op))) && (decide (a.arg = b.arg))) && (decide (a.key = b.key))) : Value) from rfl) ?_))))))
 refine ⟨?_, (c.s2_)⟩
 congr 1
 rw [Bool.eq_iff_iff]
 simp only [Bool.and_eq_true, decide_eq_true_eq, Ev.eq_iff]
 constructor
 rintro ⟨⟨⟨⟨⟨⟨⟨⟨L, h3⟩, h4⟩, h5⟩, h6⟩, h7⟩, h8⟩, h9⟩, K⟩; exact ⟨L.1, L.2, h3, h4, h5, h6, h7, h8, h9, K⟩
 rintro ⟨L, h2, h3, h4, h5, h6, h7, h8, h9, K⟩; exact ⟨⟨⟨⟨⟨⟨⟨⟨⟨L, h2⟩, h3⟩, h4⟩, h5⟩, h6⟩, h7⟩, h8⟩, h9⟩, K⟩

def yY (d : Dcl) (c : Cmd) : Int := if ((decide (c.cagg < 0) || decide (c.ckey < 0)) || decide (c.expect < -1)) = true then 1 else yL d c.ctyp c.cfield c.cop c.carg
def zM (a b : List Int) : List Int := (List.range (max a.length b.length)).map fun i => max (yx a ((i : Nat) : Int)) (yx b ((i : Nat) : Int))
theorem Wn (a b : List Int) : (zM a b).length = max a.length b.length := by unfold zM; rw [List.length_map, List.length_range]
theorem Kn {a b : List Int} {k : Nat} (h : k < max a.length b.length) : (zM a b).getD k 0 = max (yx a ((k : Nat) : Int)) (yx b ((k : Nat) : Int)) := by
  unfold zM
  rw [zA _ (by rw [List.length_map, List.length_range]; exact h), List.getElem_map, List.getElem_range]
def evN (o : Int) (v : List Int) (lam : Int) : Int := if ((decide (o < 0) || decide (((v.length : Nat) : Int) ≤ o)) || decide (lam < 0)) = true then 1 else if (decide (yx v o = 9223372036854775807) || decide (lam = 9223372036854775807)) = true then 13 else 0
def ev0 : Ev := ⟨0, 0, 0, [], 0, 0, 0, 0, 0, 0⟩
def evY (c : Cmd) (o : Int) (v : List Int) (lam : Int) : Ev := ⟨o, yx v o + 1, lam + 1, zM v [], c.ctyp, c.cagg, c.cfield, c.cop, c.carg, c.ckey⟩
def evE (c : Cmd) (o : Int) (v : List Int) (lam : Int) : Ev := if evN o v lam = 0 then evY c o v lam else ev0
theorem Vb : ev0.Ok := by constructor <;> decide
theorem zaQ {c : Cmd} {o lam : Int} {v : List Int} (oc : c.Ok) (ho : InR o) (hv : InR (yx v o)) (hl : InR lam) : (evE c o v lam).Ok := by
  unfold evE
  split
  · rename_i h
    unfold evN at h
    split at h
    · cases h
    split at h
    · cases h
    rename_i h2
    simp only [Bool.or_eq_true, decide_eq_true_eq, not_or] at h2
    exact ⟨ho, show InR (_ + 1) by omega, show InR (lam + 1) by omega, oc.ctyp, oc.cagg, oc.cfield, oc.cop, oc.carg, oc.ckey⟩
  · exact Vb
theorem Kt {G : Nat → Prop} {W w : World} {Rs : List HP} {d : Dcl} {dd0 : Value} (hdd0 : RdS W G dd0 d.types) {dd1 : Value} (hdd1 : RdS W G dd1 d.projs) (od : d.Ok) {c : Cmd} (oc : c.Ok) (hKN : RdS W G (.slice (some ⟨0, 0, none⟩) 6 6) kindsL) (hS0 : Sep G W Rs w) : Ret Tryz.prog 27 [.agg (d.cells dd0 dd1).toArray, .agg (c.cells).toArray] w (fun r w' => r = (.int .i64 (yY d c) : Value) ∧ Sep G W Rs w') := by
 have hdd0s : _ * 24 ≤ _ := hdd0.small
 have hdd1s : _ * 40 ≤ _ := hdd1.small
 have hKNs : _ * 8 ≤ _ := hKN.small
 refine zi (args := [.agg (d.cells dd0 dd1).toArray, .agg (c.cells).toArray]) Tryz.func27 rfl rfl ?_
 refine za (R0 fun _ => st (zH (v := .agg (d.cells dd0 dd1).toArray) rfl ?_))
 intro w3 b2 t
 refine st (zH (v := .agg (c.cells).toArray) rfl ?_)
 intro w7 u x
 have e := (hS0.new t).new x
 refine st (aS (Iv 0) (zd (za (za (zv kr (st (Wz rfl (st (lD (Iv (c.cagg)) kT rfl (zb (e.b0) rfl) (st (zF (k := .i64) (a := c.cagg) (b := 0) rfl rfl (st (mV (.bool (decide (c.cagg < 0))) (stc (V := Ix u 6) rfl rfl (fun y => ?_) ?_))))))))))))))
 have hl10 := fD y
 exact Ur rfl ⟨rfl, rfl⟩
 refine stc (V := Iv (c.ckey)) rfl rfl (fun i => ?_) ?_
 have hl12 := fD i
 exact lD (Iv (c.ckey)) kT (if_pos i) (zb (e.b0) rfl) ⟨rfl, rfl⟩
 refine stc (V := .bool (decide (c.ckey < 0))) rfl rfl (fun j => ?_) ?_
 have hl14 := fD j
 exact zF (k := .i64) (a := c.ckey) (b := 0) (if_pos j) rfl ⟨rfl, rfl⟩
 refine st (zo (b := decide (c.cagg < 0)) (b' := decide (c.ckey < 0)) rfl (fun hbp => (if_pos hbp)) (st (mV (.bool ((decide (c.cagg < 0)) || (decide (c.ckey < 0)))) (stc (V := Ix u 5) rfl rfl (fun n => ?_) ?_))))
 have o := n
 try simp only [ze] at o
 exact Zd rfl ⟨rfl, rfl⟩
 refine stc (V := Iv (c.expect)) rfl rfl (fun l => ?_) ?_
 have p := l
 try simp only [ze] at p
 exact lD (Iv (c.expect)) kT (if_pos l) (zb (e.b0) rfl) ⟨rfl, rfl⟩
 refine stc (V := .bool (decide (c.expect < (-1)))) rfl rfl (fun m => ?_) ?_
 have q := m
 try simp only [ze] at q
 exact zF (k := .i64) (a := c.expect) (b := -1) (if_pos m) rfl ⟨rfl, rfl⟩
 refine st (zo (b := (decide (c.cagg < 0)) || (decide (c.ckey < 0))) (b' := decide (c.expect < (-1))) rfl (fun hbp => (if_pos hbp)) (zd ?_))
 cases g : ((decide (c.cagg < 0)) || (decide (c.ckey < 0))) || (decide (c.expect < (-1)))
 have h := g
 try simp only [ze] at g
 refine zg rfl (zl (za (R0 fun _ => st (zf (k := 2) wT kR rfl rfl (CellsAt.all (e.b1)) (st (Xu rfl (st (lD (Iv (c.ctyp)) kT rfl (zb (e.b0) rfl) (st (VY rfl (st (lD (Iv (c.cfield)) kT rfl (zb (e.b0) rfl) (st (Ul rfl (st (lD (Iv (c.cop)) kT rfl (zb (e.b0) rfl) (st (WZ rfl (st (lD (Iv (c.carg)) kT rfl (zb (e.b0) rfl) (st (cL pY (Ks (d := d) (ty := c.ctyp) (f := c.cfield) (op := c.cop) (arg := c.carg) hdd0 hdd1 od oc.ctyp oc.cfield oc.cop oc.carg hKN e) ?_))))))))))))))))))))))
 rintro _ w22 ⟨rfl, s⟩
 refine st (aS (Iv (yL d c.ctyp c.cfield c.cop c.carg)) (zd (zk (zG nA (show _ = (Iv (yL d c.ctyp c.cfield c.cop c.carg) : Value) from rfl) ?_))))
 refine ⟨?_, (s.s2_)⟩
 unfold yY
 simp only [h, if_true, if_false, Bool.false_eq_true, ↓reduceIte]
 have h := g
 try simp only [ze] at g
 refine zh rfl (za (R0 fun _ => st (aS (Iv 1) (zd (zk (zG nA (show _ = (Iv 1 : Value) from rfl) ?_))))))
 refine ⟨?_, (e.s2_)⟩
 unfold yY
 simp only [h, if_true, if_false, Bool.false_eq_true, ↓reduceIte]

theorem UQ {G : Nat → Prop} {W w : World} {Rs : List HP} {va : Value} {a : List Int} (ha : RdS W G va a) {vb : Value} {b : List Int} (hb : RdS W G vb b) (hS0 : Sep G W Rs w) : Ret Tryz.prog 54 [va, vb] w (fun r w' => ∃ (v : Value), r = (v : Value) ∧ Sep G W ((RowE (α := Int) own 3 v (zM a b)) :: Rs) w') := by
 have has : _ * 8 ≤ _ := ha.small
 have hbs : _ * 8 ≤ _ := hb.small
 refine zi (args := [va, vb]) Tryz.func54 rfl rfl ?_
 refine za (R0 fun _ => st (aS (Iz) (zd (za (R0 fun _ => st (aS (Iz) (zd (za (za (R0 fun _ => st (mV va (st (zL (n := a.length) sT rfl ha.sl (st (mV vb (st (zL (n := b.length) sT rfl hb.sl (st (Yx (k := .i64) (a := ((a.length : Nat) : Int)) (b := ((b.length : Nat) : Int)) rfl rfl (st (mV (Iv 0) (zd (zw ?_)))))))))))))))))))))))
 have u : Sep G W ((RowE (α := Int) own 3 (Iz) ([] : List Int)) :: Rs) w := hS0.rowNil own 3
 refine yh (fun mq σ y => ∃ (k : Nat) (vo : Value) (ρ : Env), mq = (max a.length b.length) - k ∧ σ = ye ρ [(0, va), (1, vb), (4, (Iz)), (11, Iv (max ((a.length : Nat) : Int) ((b.length : Nat) : Int))), (12, Iw k), (5, vo)] ∧ (k ≤ (max a.length b.length)) ∧ Sep G W ((RowE (α := Int) own 3 vo ((zM a b).take k)) :: Rs) y) ⟨0, (Iz), _, rfl, sSf, Nat.zero_le _, u⟩ ?_
 rintro m3 σ4 w2 ⟨k, vo, ρl1, rfl, rfl, hkk, f⟩
 have x := f.r0
 have hr6s : _ * 8 ≤ _ := x.2
 refine za (R0 fun _ => st (zF (k := .i64) (a := ((k : Nat) : Int)) (b := max ((a.length : Nat) : Int) ((b.length : Nat) : Int)) rfl rfl (zd (za ?_))))
 cases g : decide (((k : Nat) : Int) < (max ((a.length : Nat) : Int) ((b.length : Nat) : Int)))
 have g := fD g
 refine zg rfl (yi (yb (za (R0 fun _ => st (mV vo (st (aS vo (zd (zk (zG Tryz.results54 (show _ = (vo : Value) from rfl) ?_))))))))))
 have hk9 : k = max a.length b.length := by omega
 rw [List.take_of_length_le (by rw [Wn]; omega)] at f
 refine ⟨vo, rfl, f⟩
 have g := tD g
 refine zh rfl (zl (za (zw (za (R0 fun _ => st (mV (Iw k) (st (aS (Iw k) (zd (R0 fun _ => st (mV vo (st (mV va (st (mV (Iw k) (st (cL pA (WJ (v := a) (vv := va) (o := ((k : Nat) : Int)) ha om f) ?_)))))))))))))))))
 rintro _ w9 ⟨rfl, hg8, l⟩
 refine st (mV vb (st (mV (Iw k) (st (cL pA (WJ (v := b) (vv := vb) (o := ((k : Nat) : Int)) hb om l) ?_)))))
 rintro _ w12 ⟨rfl, hg11, m⟩
 refine st (Yx (k := .i64) (a := yx a ((k : Nat) : Int)) (b := yx b ((k : Nat) : Int)) rfl rfl (st (zS (k := 1) (parts' := [(0, Iv (max (yx a ((k : Nat) : Int)) (yx b ((k : Nat) : Int))))]) (c := #[Iv (max (yx a ((k : Nat) : Int)) (yx b ((k : Nat) : Int)))]) sT nY Tryz.zeroValue3 dc rfl kr ?_)))
 intro w16 b15 p
 have h := m.new p
 have i := h.b0
 refine st (xb (src := own) (bytes := 8) (x1 := max (yx a ((k : Nat) : Int)) (yx b ((k : Nat) : Int))) ((h.s2_b).emp1) el39 rfl rfl i (fun _ _ _ => (show _ from ⟨rfl, (by have h1 : InR (yx a ((k : Nat) : Int)) := (by omega); have h2 : InR (yx b ((k : Nat) : Int)) := (by omega); omega)⟩)) yqb rfl ?_)
 intro j w18 e
 have q := e.r0
 have hr24s : _ * 8 ≤ _ := q.2
 refine st (aS j (zd (R0 fun _ => ?_)))
 have s : InR ((k + 1 : Nat) : Int) := bo
 refine st (zV (r := ((k + 1 : Nat) : Int)) (k := .i64) (a := ((k : Nat) : Int)) (b := 1) rfl rfl (by rw [show (((k : Nat) : Int) + 1 : Int) = ((k + 1 : Nat) : Int) from bo]; exact zJ s) (st (mV (Iw (k + 1)) (zd ?_))))
 have t : ((zM a b).take (k + 1)) = ((zM a b).take k) ++ [max (yx a ((k : Nat) : Int)) (yx b ((k : Nat) : Int))] := (by rw [List.take_getD (d := 0) (by rw [Wn]; omega), Kn (by omega)])
 rw [← t] at e
 exact ⟨_, by omega, k + 1, j, _, rfl, sSf, by omega, e⟩

end Go.Proofs.YtbbabhaalmkbkaaGreatDoor
