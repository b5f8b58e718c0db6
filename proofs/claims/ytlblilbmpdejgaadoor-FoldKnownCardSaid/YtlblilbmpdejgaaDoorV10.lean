import Derived.Test.YtlblilbmpdejgaaDoorV7
import Derived.Test.YtlblilbmpdejgaaDoorV9
import Derived.Test.YtlblilbmpdejgaaDoorV8
set_option linter.unusedSimpArgs false
set_option linter.unusedVariables false
set_option linter.unusedSectionVars false
set_option linter.deprecated false
set_option maxRecDepth 8000
set_option maxHeartbeats 4000000
open Go.Proofs.Tryd renaming isAgg3 → lT, sizeOf59 → mT, sizeOf62 → nT, sizeOf57 → oT, sizeOf68 → pT, isAgg59 → qT, underlying66 → rT, sizeOf33 → sT, isAgg57 → tT, underlying47 → uT, zeroValue62 → vT, sizeOf25 → wT, isAgg66 → lR, isAgg25 → mR, zeroValue68 → nR, isAgg22 → oR, underlying22 → pR, isAgg68 → qR, isAgg62 → rR, isAgg33 → sR, sizeOf79 → tR, call27 → uR, zeroValue59 → vR, isAgg40 → wR, results61 → lY, call31 → mY, results33 → nY, isAgg79 → oY, call33 → pY, call36 → qY, call37 → rY, call32 → sY, call30 → tY, isAgg77 → uY, underlying77 → vY, call23 → wY, call64 → lA, isAgg4 → mA, isAgg26 → nA, zeroValue57 → pA, isAgg31 → qA, underlying31 → rA, call91 → sA, underlying51 → tA, call21 → uA, results4 → vA
namespace Go.Proofs.YtlblilbmpdejgaaDoor
open Go.Proofs Go.RowKit

def VJ (f : Fld) (m : Int) (k : Nat) : Bool := decide (m = 0) || (f.moves.take k).any (fun x => decide (x.to = m))
def Zw (f : Fld) (m : Int) : Bool := VJ f m f.moves.length
theorem UT {f : Fld} {m : Int} {k : Nat} (hk : k < f.moves.length) : VJ f m (k + 1) = (VJ f m k || decide ((f.moves.getD k default).to = m)) := by
  have e : f.moves.take (k + 1) = f.moves.take k ++ [f.moves.getD k default] := by rw [List.take_add_one, List.getElem?_eq_getElem hk, List.getD_eq_getElem?_getD, List.getElem?_eq_getElem hk]; rfl
  unfold VJ
  rw [e, List.any_append, Bool.or_assoc]
  simp
theorem Qo {f : Fld} {m : Int} {j : Nat} (hj : j < f.moves.length) (h : (f.moves.getD j default).to = m) : Zw f m = true := by
  unfold Zw VJ
  rw [List.take_length]
  simp only [Bool.or_eq_true, List.any_eq_true, decide_eq_true_eq]
  refine .inr ⟨f.moves[j], List.getElem_mem hj, ?_⟩
  rw [List.getD_eq_getElem?_getD, List.getElem?_eq_getElem hj] at h; exact h
theorem UI (f : Fld) : Zw f 0 = true := rfl
def Led (t : Typ) (c : List Cel) : Prop := ∀ i, i < c.length → (t.fields.getD i default).kind = 4 → Zw (t.fields.getD i default) (c.getD i default).n = true
theorem QT (t : Typ) : Led t (WW t) := by
  intro i hi _
  unfold WW at hi ⊢
  rw [zG _ hi, List.getElem_replicate]
  exact UI _
theorem JA {t : Typ} {c : List Cel} {f op arg : Int} (hf : Fits t f op arg) (h : Led t c) : Led t (doL t c f op arg) := by
  intro i hi hk
  rw [UA] at hi
  unfold doL
  by_cases e : i = f.toNat
  · subst e
    rw [Ze hi]
    have hk' : (yK t f).kind = 4 := hk
    rcases hf.kind with h1 | h1 | h1 | h1
    · omega
    · omega
    · omega
    · obtain ⟨h1, _, h2, h3⟩ := h1
      have e2 : yF (yK t f) (yi c f) op arg = ⟨(Zj (yK t f) arg).to, (yi c f).set⟩ := by unfold yF; subst h1; rfl
      rw [e2]
      exact Qo (f := yK t f) (j := arg.toNat) (by omega) rfl
  · rw [ZB (fun h => e h.symm)]; exact h i hi hk
def InvL (d : Dcl) (L : List Ent) : Prop := ∀ ty ag : Int, Led (xB d ty) (zT d (ty, ag) L)
theorem InvL.run {d : Dcl} (l : List Ev) : InvL d (zY d l) := by
  induction l using xI with
  | h0 => exact fun ty ag => QT _
  | h1 l e ih =>
    rw [xe]
    intro ty ag
    rw [yR]
    split
    · rename_i hx
      unfold onL at hx
      simp only [Bool.and_eq_true, Bool.not_eq_true', decide_eq_true_eq] at hx
      obtain ⟨hv, ht, ha⟩ := hx
      obtain ⟨hf, hm⟩ := ZI (d := d) (L := zY d l) (e := e) hv
      obtain ⟨f1, f2, hft⟩ := ZK hf
      have ht' : e.typ = ty := ht
      have ha' : e.agg = ag := ha
      subst ht' ha'
      exact JA hft (ih e.typ e.agg)
    · exact ih ty ag
theorem Uq {d : Dcl} {ty ag : Int} (l : List Ev) (h : ¬ yd (ty, ag) (zY d l) = 0) : 0 ≤ ty ∧ ty < d.types.length := by
  induction l using xI with
  | h0 => exact absurd rfl h
  | h1 l e ih =>
    rw [xe, xS] at h
    split at h
    · rename_i hx
      unfold onL at hx
      simp only [Bool.and_eq_true, Bool.not_eq_true', decide_eq_true_eq] at hx
      obtain ⟨hv, ht, ha⟩ := hx
      obtain ⟨hf, hm⟩ := ZI (d := d) (L := zY d l) (e := e) hv
      obtain ⟨f1, f2, _⟩ := ZK hf
      have ht' : e.typ = ty := ht
      subst ht'
      exact ⟨f1, f2⟩
    · exact ih h
theorem onL_raw {a b : Int} {x : Ent} : onL (a, b) x = (((!x.void) && decide (x.ev.typ = a)) && decide (x.ev.agg = b)) := by
  unfold onL; cases x.void <;> simp [Bool.and_comm, Bool.decide_and]
theorem KQ {k : Int × Int} {L : List Ent} {j : Nat} (hj : j < L.length) (h : onL k (L.getD j default) = true) : yd k (L.take (j + 1)) = yd k (L.take j) + 1 := by
  have e : L.take (j + 1) = L.take j ++ [L.getD j default] := by rw [List.take_add_one, List.getElem?_eq_getElem hj, List.getD_eq_getElem?_getD, List.getElem?_eq_getElem hj]; rfl
  rw [e, xS, if_pos h]
theorem KO {k : Int × Int} {L : List Ent} {j : Nat} (hj : j < L.length) (h : onL k (L.getD j default) = false) : yd k (L.take (j + 1)) = yd k (L.take j) := by
  have e : L.take (j + 1) = L.take j ++ [L.getD j default] := by rw [List.take_add_one, List.getElem?_eq_getElem hj, List.getD_eq_getElem?_getD, List.getElem?_eq_getElem hj]; rfl
  rw [e, xS, h]; rfl
theorem D_led {G : Nat → Prop} {W w : World} {Rs : List HP} {f : Fld} {df0 : Value} (hdf0 : RdS W G df0 f.moves) (of : f.Ok) {m : Int} (hm : InR m) (hS0 : Sep G W Rs w) : Ret Tryd.prog 42 [.agg (f.cells df0).toArray, .int .i64 (m)] w (fun r w' => r = (.bool ((Zw f m)) : Value) ∧ Sep G W Rs w') := by
 have hdf0s : _ * 32 ≤ _ := hdf0.small
 refine zl (args := [.agg (f.cells df0).toArray, Iv m]) Tryd.func42 rfl rfl ?_
 refine za (R0 fun _ => st (zR (v := .agg (f.cells df0).toArray) rfl ?_))
 intro w3 b2 x
 refine st (aS (.bool false) (zb (za (yD (by kernel_rfl) (fun _ => (st (mV (Iv m) (st (zF (k := .i64) (a := m) (b := 0) rfl rfl (st (aS (.bool (decide (m = 0))) (zb (za (za (yD (by kernel_rfl) (fun _ => (st (aS (Iv 0) (zb (zn (zX (fun mq σ y => ∃ (k : Nat) (b : Bool) (ρ : Env), mq = f.moves.length - k ∧ σ = yb ρ [(1, Iv m), (2, Ix b2 0), (5, .bool b), (6, Iw k)] ∧ (k ≤ f.moves.length) ∧ (b = VJ f m k) ∧ Sep G W ((Blk b2 (f.cells df0).toArray 79) :: Rs) y) ⟨0, (decide (m = 0)), _, rfl, sSf, Nat.zero_le _, (by unfold VJ; simp), (hS0.new x)⟩ ?_)))))))))))))))))))))
 rintro m6 σ7 w5 ⟨k, b, ρl1, rfl, rfl, hkk, hb, c⟩
 refine za (za (R0 fun _ => st (mV (Iw k) (st (yu rfl (st (lD df0 uY rfl (zd (c.b0) rfl) (st (zA (n := f.moves.length) vY rfl hdf0.sl (st (zD (k := .i64) (a := ((k : Nat) : Int)) (b := ((f.moves.length : Nat) : Int)) rfl rfl (zb ?_))))))))))))
 cases d : decide (((k : Nat) : Int) < ((f.moves.length : Nat) : Int))
 have d := fD d
 refine zi rfl (zU (zI (za (R0 fun _ => st (mV (.bool b) (st (aS (.bool b) (zb (zm (zL Tryd.results42 (show _ = (.bool b : Value) from rfl) ?_))))))))))
 refine ⟨?_, (c.s1_)⟩
 rw [hb, show k = f.moves.length by omega]
 rfl
 have d := tD d
 refine zj rfl (zk (za (zn (zw kr (st (mV (.bool b) (st (mV (.bool b) (stc (V := Ix b2 3) rfl rfl (fun hb11 => ?_) ?_)))))))))
 exact yu rfl ⟨rfl, rfl⟩
 refine stc (V := df0) rfl rfl (fun p => ?_) ?_
 exact lD df0 uY (if_pos p) (zd (c.b0) rfl) ⟨rfl, rfl⟩
 refine stc (V := Iw k) rfl rfl (fun hb15 => ?_) ?_
 exact mV (Iw k) ⟨rfl, rfl⟩
 refine stc (V := Ix (sb df0) (so df0 + k * 4)) rfl rfl (fun e => ?_) ?_
 have q : k < f.moves.length := bo
 exact ze (k := 4) (i := k) vY Tryd.sizeOf115 (if_pos e) hdf0.sl (if_pos e) q ⟨rfl, rfl⟩
 refine stc (V := Ix (sb df0) (so df0 + k * 4 + 1)) rfl rfl (fun s => ?_) ?_
 exact Xb (if_pos s) ⟨rfl, rfl⟩
 refine stc (V := Iv ((f.moves.getD k default).to)) rfl rfl (fun t => ?_) ?_
 have g : k < f.moves.length := bo
 obtain ⟨l, hoke24⟩ := hdf0.mvD g
 have o := c.cells l (hdf0.foot (ne_of_lt g))
 exact lD (Iv ((f.moves.getD k default).to)) lT (if_pos t) (o.get (j := 1) rfl) ⟨rfl, rfl⟩
 refine stc (V := Iv m) rfl rfl (fun hb27 => ?_) ?_
 exact mV (Iv m) ⟨rfl, rfl⟩
 refine stc (V := .bool (decide (((f.moves.getD k default).to) = m))) rfl rfl (fun h => ?_) ?_
 exact zF (k := .i64) (a := (f.moves.getD k default).to) (b := m) (if_pos h) (if_pos h) ⟨rfl, rfl⟩
 refine st (zx (b := b) (b' := decide (((f.moves.getD k default).to) = m)) rfl (fun hbp => (if_pos hbp)) (st (aS (.bool (b || (decide (((f.moves.getD k default).to) = m)))) (zb (R0 fun _ => st (mV (Iw k) ?_))))))
 have u : InR ((k + 1 : Nat) : Int) := bo
 refine st (zH (r := ((k + 1 : Nat) : Int)) (k := .i64) (a := ((k : Nat) : Int)) (b := 1) rfl rfl (by rw [show (((k : Nat) : Int) + 1 : Int) = ((k + 1 : Nat) : Int) from bo]; exact zz u) (st (aS (Iw (k + 1)) (zb ?_))))
 exact ⟨_, by omega, k + 1, b || (decide (((f.moves.getD k default).to) = m)), _, rfl, sSf, by omega, (by rw [UT (by omega), hb]), c⟩

def RefV (b : Nat) (d : Dcl) (L : List Ent) : HP := Ex1 fun vt => Ex1 fun vp => Ex1 fun ve => Star [Blk b #[vt, vp, ve] 113, RowE (α := Typ) own 33 vt d.types, RowE (α := Prj) own 107 vp d.projs, RowE (α := Ent) own 62 ve L]
section
variable {G : Nat → Prop} {W w : World} {As : List HP} {b : Nat} {d : Dcl} {L : List Ent}
theorem RefV.open (h : Sep G W (RefV b d L :: As) w) : ∃ vt vp ve, Sep G W (Blk b #[vt, vp, ve] 113 :: RowE (α := Typ) own 33 vt d.types :: RowE (α := Prj) own 107 vp d.projs :: RowE (α := Ent) own 62 ve L :: As) w := by
  obtain ⟨vt, h⟩ := h.openEx
  obtain ⟨vp, h⟩ := h.openEx
  obtain ⟨ve, h⟩ := h.openEx
  exact ⟨vt, vp, ve, h.openStar⟩
theorem RefV.close {vt vp ve : Value} (h : Sep G W (Blk b #[vt, vp, ve] 113 :: RowE (α := Typ) own 33 vt d.types :: RowE (α := Prj) own 107 vp d.projs :: RowE (α := Ent) own 62 ve L :: As) w) : Sep G W (RefV b d L :: As) w := by
  have h := Sep.closeStar (Bs := [Blk b #[vt, vp, ve] 113, RowE (α := Typ) own 33 vt d.types, RowE (α := Prj) own 107 vp d.projs, RowE (α := Ent) own 62 ve L]) h
  exact Sep.closeEx (A := fun vt => Ex1 fun vp => Ex1 fun ve => Star [Blk b #[vt, vp, ve] 113, RowE (α := Typ) own 33 vt d.types, RowE (α := Prj) own 107 vp d.projs, RowE (α := Ent) own 62 ve L]) vt (Sep.closeEx (A := fun vp => Ex1 fun ve => Star [Blk b #[vt, vp, ve] 113, RowE (α := Typ) own 33 vt d.types, RowE (α := Prj) own 107 vp d.projs, RowE (α := Ent) own 62 ve L]) vp (Sep.closeEx (A := fun ve => Star [Blk b #[vt, vp, ve] 113, RowE (α := Typ) own 33 vt d.types, RowE (α := Prj) own 107 vp d.projs, RowE (α := Ent) own 62 ve L]) ve h))
theorem RefV.sh (h : (RefV b d L).p W G) : ∃ vt vp ve, (Blk b #[vt, vp, ve] 113).p W G ∧ RdS W G vt d.types ∧ RdS W G vp d.projs ∧ RdS W G ve L := by
  obtain ⟨vt, vp, ve, h⟩ := h
  exact ⟨vt, vp, ve, Star.at_ h (i := 0) rfl, RowE.rd (T := 33) (Star.at_ h (i := 1) rfl), RowE.rd (T := 107) (Star.at_ h (i := 2) rfl), RowE.rd (T := 62) (Star.at_ h (i := 3) rfl)⟩
end

theorem xK {G : Nat → Prop} {W w : World} {Rs : List HP} {e : Ev} {de0 : Value} (hde0 : RdS W G de0 e.deps) (oe : e.Ok) (hS0 : Sep G W Rs w) : Ret Tryd.prog 27 [.agg (e.cells de0).toArray] w (fun r w' => ∃ (v : Value), r = (.agg (e.cells v).toArray : Value) ∧ Sep G W ((RowE (α := Int) own 3 v e.deps) :: Rs) w') := by
 have hde0s : _ * 8 ≤ _ := hde0.small
 refine zl (args := [.agg (e.cells de0).toArray]) Tryd.func27 rfl rfl ?_
 refine za (R0 fun _ => st (zR (v := .agg (e.cells de0).toArray) rfl ?_))
 intro w3 b2 n
 refine st (zr vR ?_)
 intro w7 p o
 have i := (hS0.new n).new o
 refine zb (za (R0 fun _ => st (xo rfl (st (lD de0 wR rfl (zd (i.b1) rfl) (st (cL Tryd.call58 (XG (l := e.deps) (vl := de0) hde0 i) ?_)))))))
 rintro g w10 ⟨_, rfl, a⟩
 have d := a.r0
 have hr12s : _ * 8 ≤ _ := d.2
 refine st (xo rfl (stn (yp (v := g) (c := [Iv (e.origin), Iv (e.seq), Iv (e.lam), de0, Iv (e.typ), Iv (e.agg), Iv (e.field), Iv (e.op), Iv (e.arg), Iv (e.key)]) (c' := [Iv (e.origin), Iv (e.seq), Iv (e.lam), g, Iv (e.typ), Iv (e.agg), Iv (e.field), Iv (e.op), Iv (e.arg), Iv (e.key)]) Tryd.sizeOf40 rfl rfl (a.b2) d.1.one rfl rfl ?_)))
 intro w13 j
 have ok15 : Ev.Ok e := ⟨(show InR (e.origin) from oe.origin), (show InR (e.seq) from oe.seq), (show InR (e.lam) from oe.lam), (show InR (e.typ) from oe.typ), (show InR (e.agg) from oe.agg), (show InR (e.field) from oe.field), (show InR (e.op) from oe.op), (show InR (e.arg) from oe.arg), (show InR (e.key) from oe.key)⟩
 have f := a.pt2 j
 refine zb (za (R0 fun _ => st (zg (k := 10) qT mT rfl rfl (CellsAt.all (f.b2)) (stn (zp (v := .agg (e.cells g).toArray) (c' := (e.cells g).toArray) mT rfl rfl (f.b1) (zW ⟨rfl, rfl, rfl, d.1.one, rfl, rfl, rfl, rfl, rfl, rfl, trivial⟩) yqc rfl ?_)))))
 intro w17 m
 have h := f.pt1 m
 refine zb (zm (XK (b := p) Tryd.results27 qT mT rfl rfl (CellsAt.all (h.b1)) ?_))
 refine ⟨g, rfl, (h.s3_a)⟩

theorem XP {G : Nat → Prop} {W w : World} {Rs : List HP} {vl : Value} {l : List Ent} (hl : RdS W G vl l) (hS0 : Sep G W Rs w) : Ret Tryd.prog 66 [vl] w (fun r w' => ∃ (v : Value), r = (v : Value) ∧ Sep G W ((RowE (α := Ent) own 62 v l) :: Rs) w') := by
 have hls : _ * 120 ≤ _ := hl.small
 refine zl (args := [vl]) Tryd.func66 rfl rfl ?_
 refine za (R0 fun _ => st (aS (Iz) (zb (za (R0 fun _ => st (aS (Iz) (zb (za (za (R0 fun _ => st (aS (Iv 0) (zb (zn ?_)))))))))))))
 have L : Sep G W ((RowE (α := Ent) own 62 (Iz) ([] : List Ent)) :: Rs) w := hS0.rowNil own 62
 refine zX (fun mq σ P => ∃ (k : Nat) (vo : Value) (ρ : Env), mq = l.length - k ∧ σ = yb ρ [(0, vl), (4, Iw k), (3, vo)] ∧ (k ≤ l.length) ∧ Sep G W ((RowE (α := Ent) own 62 vo (l.take k)) :: Rs) P) ⟨0, (Iz), _, rfl, sSf, Nat.zero_le _, L⟩ ?_
 rintro m3 σ4 w2 ⟨k, vo, ρl1, rfl, rfl, hkk, f⟩
 let R := zy W (sb vl) (so vl + k * 13 + 3)
 have M := f.r0
 have hr6s : _ * 120 ≤ _ := M.2
 refine za (za (R0 fun _ => st (mV (Iw k) (st (mV vl (st (zA (n := l.length) rT rfl hl.sl (st (zD (k := .i64) (a := ((k : Nat) : Int)) (b := ((l.length : Nat) : Int)) rfl rfl (zb ?_))))))))))
 cases j : decide (((k : Nat) : Int) < ((l.length : Nat) : Int))
 have j := fD j
 have hkn : k = l.length := by omega
 rw [hkn, List.take_of_length_le (Nat.le_refl l.length)] at f
 have N := f.r0
 have hr8s : _ * 120 ≤ _ := N.2
 refine zi rfl (zU (zI (za (R0 fun _ => st (mV vo (st (aS vo (zb (zm (zL Tryd.results66 (show _ = (vo : Value) from rfl) ?_))))))))))
 refine ⟨vo, rfl, f⟩
 have j := tD j
 refine zj rfl (zk (za (zn (za (R0 fun _ => st (mV vl (st (mV (Iw k) ?_))))))))
 have O : k < l.length := bo
 refine st (ze (k := 13) (i := k) rT nT rfl hl.sl rfl O ?_)
 have o : k < l.length := bo
 obtain ⟨z, d, g⟩ := hl.entD o
 have hsm12 : ((l.getD k default).ev.deps).length * 8 ≤ 140737488355328 := d.small
 have A := f.cells z (hl.foot (ne_of_lt o))
 refine st (zg (k := 13) rR nT rfl rfl A (st (zr vT ?_)))
 intro w16 b15 D
 have p := f.new D
 refine stn (zp (v := .agg ((l.getD k default).cells R).toArray) (c' := ((l.getD k default).cells R).toArray) nT rfl rfl (p.b0) (zW ⟨rfl, rfl, rfl, d.sl.one, rfl, rfl, rfl, rfl, rfl, rfl, rfl, rfl, rfl, trivial⟩) yqc rfl ?_)
 intro w18 E
 have q := p.pt0 E
 refine zb (za (R0 fun _ => st (xq rfl (st (zg (k := 10) (cs := [Iv ((l.getD k default).ev.origin), Iv ((l.getD k default).ev.seq), Iv ((l.getD k default).ev.lam), R, Iv ((l.getD k default).ev.typ), Iv ((l.getD k default).ev.agg), Iv ((l.getD k default).ev.field), Iv ((l.getD k default).ev.op), Iv ((l.getD k default).ev.arg), Iv ((l.getD k default).ev.key)]) qT mT rfl rfl (CellsAt.sub (CellsAt.all (q.b0)) 0 (cs2 := [Iv ((l.getD k default).ev.origin), Iv ((l.getD k default).ev.seq), Iv ((l.getD k default).ev.lam), R, Iv ((l.getD k default).ev.typ), Iv ((l.getD k default).ev.agg), Iv ((l.getD k default).ev.field), Iv ((l.getD k default).ev.op), Iv ((l.getD k default).ev.arg), Iv ((l.getD k default).ev.key)]) rfl) (st (cL uR (xK (e := ((l.getD k default).ev)) d g.ev q) ?_)))))))
 rintro _ w22 ⟨m, rfl, h⟩
 have s := h.r0
 have hr24s : _ * 8 ≤ _ := s.2
 refine st (xq rfl (stn (zp (v := .agg (((l.getD k default).ev).cells m).toArray) (c' := #[Iv (((l.getD k default).ev).origin), Iv (((l.getD k default).ev).seq), Iv (((l.getD k default).ev).lam), m, Iv (((l.getD k default).ev).typ), Iv (((l.getD k default).ev).agg), Iv (((l.getD k default).ev).field), Iv (((l.getD k default).ev).op), Iv (((l.getD k default).ev).arg), Iv (((l.getD k default).ev).key), .bool ((l.getD k default).void), Iv ((l.getD k default).byO), Iv ((l.getD k default).byS)]) mT rfl rfl (h.b1) (zW ⟨rfl, rfl, rfl, s.1.one, rfl, rfl, rfl, rfl, rfl, rfl, trivial⟩) yqc rfl ?_)))
 intro w25 F
 have t := h.pt1 F
 refine zb (R0 fun _ => st (mV vo (st (zg (k := 13) rR nT rfl rfl (CellsAt.all (t.b1)) (st (zu (k := 13) (parts' := [(0, .agg ((l.getD k default).cells m).toArray)]) (c := ((l.getD k default).cells m).toArray) rT nT vT dc rfl kr ?_))))))
 intro w30 b29 H
 have u := t.new H
 have B := u.b0
 refine st (yj (src := own) (bytes := 120) (x1 := (l.getD k default)) (u.s4_dbc) Qc rfl rfl B (fun _ _ Q => ⟨_, rfl, RowE.soft Q, g⟩) yqb rfl ?_)
 intro C w32 x
 have I := x.r0
 have hr37s : _ * 120 ≤ _ := I.2
 refine st (aS C (zb (R0 fun _ => st (mV (Iw k) ?_))))
 have J : InR ((k + 1 : Nat) : Int) := bo
 refine st (zH (r := ((k + 1 : Nat) : Int)) (k := .i64) (a := ((k : Nat) : Int)) (b := 1) rfl rfl (by rw [show (((k : Nat) : Int) + 1 : Int) = ((k + 1 : Nat) : Int) from bo]; exact zz J) (st (aS (Iw (k + 1)) (zb ?_))))
 have y := x.s2_a
 have K : (l.take (k + 1)) = (l.take k) ++ [(l.getD k default)] := (List.take_getD om)
 rw [← K] at y
 exact ⟨_, by omega, k + 1, C, _, rfl, sSf, by omega, y⟩

theorem VH {G : Nat → Prop} {W w : World} {Rs : List HP} {d : Dcl} {dd0 : Value} (hdd0 : RdS W G dd0 d.types) {dd1 : Value} (hdd1 : RdS W G dd1 d.projs) (od : d.Ok) (hS0 : Sep G W Rs w) : Ret Tryd.prog 25 [.agg (d.cells dd0 dd1).toArray] w (fun r w' => ∃ (b : Nat), r = (.pointer (some ⟨b, 0, none⟩) : Value) ∧ Sep G W ((RefV b d ([] : List Ent)) :: Rs) w') := by
 have hdd0s : _ * 24 ≤ _ := hdd0.small
 have hdd1s : _ * 40 ≤ _ := hdd1.small
 refine zl (args := [.agg (d.cells dd0 dd1).toArray]) Tryd.func25 rfl rfl ?_
 refine za (R0 fun _ => st (zR (v := .agg (d.cells dd0 dd1).toArray) rfl ?_))
 intro w3 b2 m
 have f := hS0.new m
 refine st (aS (.pointer none) (zb (za (R0 fun _ => st (zg (k := 2) mR wT rfl rfl (CellsAt.all (f.b0)) (st (cL wY (YM (d := d) hdd0 hdd1 od f) ?_)))))))
 rintro _ w7 ⟨a, e, rfl, g⟩
 have n := g.r1
 have hr9s : _ * 40 ≤ _ := n.2
 refine st (zQ (parts' := [(0, .agg (d.cells a e).toArray)]) (v := .agg #[a, e, (Iz)]) rfl (by simp [Instr.build, Instr.fill, go_sem, Dcl.cells]) (st (zR (v := .agg #[a, e, (Iz)]) rfl ?_)))
 intro w12 c h
 refine st (aS (Ix c 0) (zb (zm (zL Tryd.results25 (show _ = (Ix c 0 : Value) from rfl) ?_))))
 have i : Sep _ _ ((RowE (α := Typ) own 33 a d.types) :: _) _ := TypW.row ((g.new h).mv1)
 have j : Sep _ _ ((RowE (α := Ent) own 62 (Iz) ([] : List Ent)) :: _) _ := i.rowNil own 62
 have l : Sep _ _ ((RefV c d ([] : List Ent)) :: _) _ := RefV.close (d := d) (L := ([] : List Ent)) (j.s5_cbdae)
 refine ⟨c, rfl, (l.s2_a)⟩

theorem Zl {G : Nat → Prop} {W w : World} {Rs : List HP} {b : Nat} {d : Dcl} {L : List Ent} (hb : (RefV b d L).p W G) (hS0 : Sep G W Rs w) : Ret Tryd.prog 37 [.pointer (some ⟨b, 0, none⟩)] w (fun r w' => ∃ (v : Value), r = (v : Value) ∧ Sep G W ((RowE (α := Ent) own 62 v L) :: Rs) w') := by
 refine zl (args := [Ix b 0]) Tryd.func37 rfl rfl ?_
 obtain ⟨vt1, vp2, e, h, i, j, f⟩ := RefV.sh hb
 have hsm8 : d.types.length * 24 ≤ 140737488355328 := i.small
 have hsm9 : d.projs.length * 40 ≤ 140737488355328 := j.small
 have hsm10 : L.length * 120 ≤ 140737488355328 := f.small
 refine za (R0 fun _ => st (aS (Iz) (zb (za (R0 fun _ => st (mV (Ix b 0) (st (zE (b := b) (o := 0) rfl (st (xR rfl (st (lD e lR rfl (zd (hS0.gblk h) rfl) (st (cL Tryd.call66 (XP (l := L) (vl := e) f hS0) ?_))))))))))))))
 rintro a w12 ⟨_, rfl, c⟩
 have g := c.r0
 have hr14s : _ * 120 ≤ _ := g.2
 refine st (aS a (zb (zm (zL Tryd.results37 (show _ = (a : Value) from rfl) ?_))))
 refine ⟨a, rfl, c⟩

end Go.Proofs.YtlblilbmpdejgaaDoor
set_option maxRecDepth 8000
set_option maxHeartbeats 4000000
namespace Go.Proofs.YtlblilbmpdejgaaDoor
open Go.Proofs Go.RowKit

def Ran (d : Dcl) (L : List Ent) : Prop := ∃ l, L = zY d l
theorem Ran.inv {d : Dcl} {L : List Ent} (hd : DclOk d) (h : Ran d L) : Inv d L := by
  obtain ⟨l, rfl⟩ := h
  exact Inv.run hd l
theorem Ran.zero {d : Dcl} {L : List Ent} {ty no : Int} (h : Ran d L) (ht : ty < 0 ∨ (d.types.length : Int) ≤ ty) : yd (ty, no) L = 0 := by
  obtain ⟨l, rfl⟩ := h
  by_cases hv : yd (ty, no) (zY d l) = 0
  · exact hv
  · have := Uq l hv
    omega
theorem Ran.done {d : Dcl} {L : List Ent} {ty no : Int} (hd : DclOk d) (h : Ran d L) {i : Nat} (hi : i < L.length) (hon : onL (ty, no) (L.getD i default) = true) : YD (xB d ty) (zT d (ty, no) (L.take i)) (L.getD i default).ev.field (L.getD i default).ev.op (L.getD i default).ev.arg ∧ ((zT d (ty, no) (L.take i)).getD (L.getD i default).ev.field.toNat default).set.length ≤ 1000 := by
  obtain ⟨l, rfl⟩ := h
  rw [yq] at hi
  have hat := YZ (d := d) hi
  have hev := YR (d := d) hi
  unfold onL at hon
  simp only [Bool.and_eq_true, Bool.not_eq_true', decide_eq_true_eq] at hon
  obtain ⟨hv, h1, h2⟩ := hon
  subst h1 h2
  rw [hat] at hv
  obtain ⟨hf, hm⟩ := ZI (d := d) (L := (zY d l).take i) (e := l.getD i default) hv
  obtain ⟨f1, f2, hft⟩ := ZK hf
  rw [hev]
  have hR : Right (xB d (l.getD i default).typ) (zT d ((l.getD i default).typ, (l.getD i default).agg) ((zY d l).take i)) := by rw [← Yu]; exact Inv.run hd _ _ _ f1 f2
  exact ⟨hft.ask (hd.typ _ (by omega)) hR, QQ hR hft.lo hft.hi⟩
theorem Kj {d : Dcl} {k : Int × Int} {L : List Ent} {j : Nat} (hj : j < L.length) (h : onL k (L.getD j default) = true) : zT d k (L.take (j + 1)) = doL (xB d k.1) (zT d k (L.take j)) (L.getD j default).ev.field (L.getD j default).ev.op (L.getD j default).ev.arg := by
  have e : L.take (j + 1) = L.take j ++ [L.getD j default] := by rw [List.take_add_one, List.getElem?_eq_getElem hj, List.getD_eq_getElem?_getD, List.getElem?_eq_getElem hj]; rfl
  rw [e, yR, if_pos h]
theorem KK {d : Dcl} {k : Int × Int} {L : List Ent} {j : Nat} (hj : j < L.length) (h : onL k (L.getD j default) = false) : zT d k (L.take (j + 1)) = zT d k (L.take j) := by
  have e : L.take (j + 1) = L.take j ++ [L.getD j default] := by rw [List.take_add_one, List.getElem?_eq_getElem hj, List.getD_eq_getElem?_getD, List.getElem?_eq_getElem hj]; rfl
  rw [e, yR, h]; rfl
theorem xV {d : Dcl} {k : Int × Int} {L : List Ent} (h : yd k L = 0) : ye d k L = ⟨0, []⟩ ∧ (zh d L k).isSome = false ∧ stL d k L = [] := by
  have h1 : stL d k L = [] := if_pos h
  refine ⟨?_, ?_, h1⟩
  · unfold ye; rw [h1, h]; rfl
  · unfold zh; rw [if_pos h]; rfl
theorem Xr {d : Dcl} {k : Int × Int} {L : List Ent} (h : ¬ yd k L = 0) : (zh d L k).isSome = true ∧ stL d k L = zT d k L := by
  refine ⟨?_, if_neg h⟩
  unfold zh; rw [if_neg h]; rfl
theorem ZX {G : Nat → Prop} {W w : World} {Rs : List HP} {b : Nat} {d : Dcl} {L : List Ent} (hb : (RefV b d L).p W G) {ty : Int} (hty : InR ty) {no : Int} (hno : InR no) (hS0 : Sep G W Rs w) (hd : DclOk d) (hrl : Ran d L) (hml : L.length ≤ 1000000) : Ret Tryd.prog 33 [.pointer (some ⟨b, 0, none⟩), .int .i64 (ty), .int .i64 (no)] w (fun r w' => ∃ (v : Value), r = (.tuple #[.agg ((ye d (ty, no) L).cells v).toArray, .bool ((zh d L (ty, no)).isSome)] : Value) ∧ Sep G W ((RowE (α := Cel) own 42 v (stL d (ty, no) L)) :: Rs) w') := by
 refine zl (args := [Ix b 0, Iv ty, Iv no]) Tryd.func33 rfl rfl ?_
 obtain ⟨g, vp2, h, K, M, bz, y⟩ := RefV.sh hb
 let bB := zy W (sb g) (so g + ty.toNat * 1 + 0)
 let bC := (d.types.getD ty.toNat default).cells bB
 have hsm8 : d.types.length * 24 ≤ 140737488355328 := M.small
 have hsm9 : d.projs.length * 40 ≤ 140737488355328 := bz.small
 have hsm10 : L.length * 120 ≤ 140737488355328 := y.small
 refine za (R0 fun _ => st (zr nR ?_))
 intro w13 z aW
 have u := hS0.new aW
 refine st (aS (.bool false) (zb (za (za (zw kr (st (mV (Iv ty) (st (zD (k := .i64) (a := ty) (b := 0) rfl rfl (st (mV (.bool (decide (ty < 0))) (stc (V := Iv ty) rfl rfl (fun aX => ?_) ?_))))))))))))
 have hl16 := fD aX
 exact mV (Iv ty) ⟨rfl, rfl⟩
 refine stc (V := Ix b 0) rfl rfl (fun aY => ?_) ?_
 have hl18 := fD aY
 exact mV (Ix b 0) ⟨rfl, rfl⟩
 refine stc (V := Ix b 0) rfl rfl (fun ac => ?_) ?_
 have hl20 := fD ac
 exact zE (b := b) (o := 0) (if_pos ac) ⟨rfl, rfl⟩
 refine stc (V := Ix b 0) rfl rfl (fun ad => ?_) ?_
 have hl22 := fD ad
 exact Zn (if_pos ad) ⟨rfl, rfl⟩
 refine stc (V := Ix b 0) rfl rfl (fun ae => ?_) ?_
 have hl24 := fD ae
 exact yn (if_pos ae) ⟨rfl, rfl⟩
 refine stc (V := g) rfl rfl (fun af => ?_) ?_
 have hl26 := fD af
 exact lD g oR (if_pos af) (zd (u.gblk K) rfl) ⟨rfl, rfl⟩
 refine stc (V := Iw d.types.length) rfl rfl (fun ag => ?_) ?_
 have hl28 := fD ag
 exact zA (n := d.types.length) pR (if_pos ag) M.sl ⟨rfl, rfl⟩
 refine stc (V := .bool (decide (((d.types.length : Nat) : Int) ≤ ty))) rfl rfl (fun P => ?_) ?_
 have hl30 := fD P
 exact yV (k := .i64) (a := ty) (b := ((d.types.length : Nat) : Int)) (if_pos P) (if_pos P) ⟨rfl, rfl⟩
 refine st (zx (b := decide (ty < 0)) (b' := decide (((d.types.length : Nat) : Int) ≤ ty)) rfl (fun hbp => (if_pos hbp)) (zb ?_))
 cases Q : (decide (ty < 0)) || (decide (((d.types.length : Nat) : Int) ≤ ty))
 have hc31r := Q
 try simp only [zf] at Q
 refine zi rfl (zk (za (R0 fun _ => st (mV (Ix b 0) (st (zE (b := b) (o := 0) rfl (st (Zn rfl (st (yn rfl (st (lD g oR rfl (zd (u.gblk K) rfl) (st (mV (Iv ty) ?_))))))))))))))
 have hi32 : ty.toNat < d.types.length := bo
 refine st (zq (k := 1) (i := ty) pR sT rfl M.sl rfl ⟨by omega, by omega⟩ ?_)
 have ah : ty.toNat < d.types.length := bo
 obtain ⟨ax, m, N⟩ := M.typD ah
 have hsm35 : ((d.types.getD ty.toNat default).fields).length * 48 ≤ 140737488355328 := m.small
 have ay := u.cells ax (M.foot (ne_of_lt ah))
 refine st (zg (k := 1) sR sT rfl rfl ay (st (zr Tryd.zeroValue33 ?_)))
 intro w39 ai aZ
 have aj := u.new aZ
 refine stn (zp (v := .agg bC.toArray) (c' := bC.toArray) sT rfl rfl (aj.b0) (zW ⟨m.sl.one, trivial⟩) yqc rfl ?_)
 intro w41 ba
 have ak := aj.pt0 ba
 refine zb (za (R0 fun _ => st (zg (k := 1) sR sT rfl rfl (CellsAt.all (ak.b0)) (st (cL lA (Xh (t := (d.types.getD ty.toNat default)) m N ak) ?_)))))
 rintro F w45 ⟨_, rfl, al⟩
 have R := al.r0
 have hr47s : _ * 32 ≤ _ := R.2
 refine st (zQ (parts' := [(1, F)]) (v := .agg #[Iv 0, F]) rfl (by obtain ⟨_, _, bb, _⟩ := R.1; rw [show F = Value.slice _ _ _ from bb]; simp [Instr.build, Instr.fill, Ev.cells, go_sem, Mv.cells, Fld.cells, Typ.cells, Prj.cells, Dcl.cells, Cel.cells, AskR.cells, Ask.cells, CelS.cells, Ev.cells, Ent.cells, Sta.cells]) (st (zr nR ?_)))
 intro w51 am bc
 have an := al.new bc
 refine stn (zp (v := .agg #[Iv 0, F]) (c' := #[Iv 0, F]) pT rfl rfl (an.b0) (zW ⟨rfl, R.1.one, trivial⟩) yqc rfl ?_)
 intro w53 bd
 refine zb (za (za (R0 fun _ => st (aS (Iv 0) (zb (zn (zX (fun mq σ wq => ∃ (k : Nat) (vs : Value) (ρ : Env), mq = L.length - k ∧ σ = yb ρ [(0, Ix b 0), (1, Iv ty), (2, Iv no), (6, Ix z 0), (7, .bool false), (8, Ix ai 0), (9, Ix am 0), (10, Iw k)] ∧ (k ≤ L.length) ∧ Sep G W ((Blk am #[Iw (yd (ty, no) (L.take k)), vs] 68) :: (RowE (α := Cel) own 42 vs (zT d (ty, no) (L.take k))) :: (Blk ai ((d.types.getD ty.toNat default).cells (zy W (sb g) (so g + ty.toNat * 1 + 0))).toArray 33) :: (Blk z #[Iv 0, (Iz)] 68) :: Rs) wq) ⟨0, F, _, rfl, sSf, Nat.zero_le _, (an.pt0 bd)⟩ ?_)))))))
 rintro m57 σ58 w56 ⟨k, vs, ρl1, rfl, rfl, hkk, e⟩
 let p := zy W (sb h) (so h + k * 13 + 3)
 have be := e.r1
 have hr60s : _ * 32 ≤ _ := be.2
 have ao := YX (ty, no) (L.take k)
 rw [List.length_take] at ao
 refine za (za (R0 fun _ => st (mV (Iw k) (st (mV (Ix b 0) (st (zE (b := b) (o := 0) rfl (st (xR rfl (st (lD h lR rfl (zd (e.gblk K) rfl) (st (zA (n := L.length) rT rfl y.sl (st (zD (k := .i64) (a := ((k : Nat) : Int)) (b := ((L.length : Nat) : Int)) rfl rfl (zb ?_))))))))))))))))
 cases A : decide (((k : Nat) : Int) < ((L.length : Nat) : Int))
 have hc61r := A
 have A := fD A
 have hkn : L.take k = L := List.take_of_length_le om
 try simp +zetaDelta only at e
 rw [hkn] at e ao
 refine zi rfl (zU (zI (za (za (R0 fun _ => st (Zm rfl (st (lD (Iw (yd (ty, no) L)) lT rfl (zd (e.b0) rfl) (st (zF (k := .i64) (a := ((yd (ty, no) L : Nat) : Int)) (b := 0) rfl rfl (zb ?_)))))))))))
 cases B : decide (((yd (ty, no) L : Nat) : Int) = 0)
 have hc62r := B
 have B := fD B
 have l : ¬ yd (ty, no) L = 0 := by omega
 refine zi rfl (zk (za (R0 fun _ => st (zg (k := 2) qR pT rfl rfl (CellsAt.all (e.b0)) ?_))))
 have ap := e.r1
 have hr65s : _ * 32 ≤ _ := ap.2
 refine stn (zp (v := .agg #[Iw (yd (ty, no) L), vs]) (c' := #[Iw (yd (ty, no) L), vs]) pT rfl rfl (e.b3) (zW ⟨rfl, ap.1.one, trivial⟩) yqc rfl ?_)
 intro bA bf
 have aq := e.pt3 bf
 refine st (aS (.bool true) (zb (zm (ZA (b := z) nY qR pT rfl rfl (CellsAt.all (aq.b3)) (show _ = (.bool true : Value) from rfl) ?_))))
 have S : Sep G W ((RowE (α := Cel) own 42 vs (zT d (ty, no) L)) :: Rs) bA := aq.sel 4 [1] (Nat.le_add_left _ _) rfl rfl
 try simp +zetaDelta only at S
 rw [← (Xr (d := d) l).2] at S
 refine ⟨vs, ?_, S⟩
 rw [(Xr (d := d) l).1]; unfold ye; rw [(Xr (d := d) l).2]; rfl
 have B := tD B
 have l : yd (ty, no) L = 0 := by omega
 refine zj rfl (za (yD (by kernel_rfl) (fun _ => (st (zQ (parts' := []) (v := .agg #[Iv 0, (Iz)]) rfl yqf (stn (zp (v := .agg #[Iv 0, (Iz)]) (c' := #[Iv 0, (Iz)]) pT rfl rfl (e.b3) (zW ⟨rfl, rfl, trivial⟩) yqc rfl ?_)))))))
 intro aU bg
 have ar := e.pt3 bg
 refine st (aS (.bool false) (zb (zm (ZA (b := z) nY qR pT rfl rfl (CellsAt.all (ar.b3)) (show _ = (.bool false : Value) from rfl) ?_))))
 have bh : Sep G W ((RowE (α := Cel) own 42 (Iz) (stL d (ty, no) L)) :: (Blk am #[Iw (yd (ty, no) L), vs] 68) :: (RowE (α := Cel) own 42 vs (zT d (ty, no) L)) :: (Blk ai bC.toArray 33) :: (Blk z #[Iv 0, (Iz)] 68) :: Rs) aU := (by rw [(xV (d := d) l).2.2]; exact ar.rowNil own 42)
 have bi : Sep G W ((RowE (α := Cel) own 42 (Iz) (stL d (ty, no) L)) :: Rs) aU := bh.sel 5 [0] (Nat.le_add_left _ _) rfl rfl
 refine ⟨(Iz), ?_, bi⟩
 rw [(xV (d := d) l).1, (xV (d := d) l).2.1]; rfl
 have A := tD A
 refine zj rfl (zk (za (zn (za (R0 fun _ => st (mV (Ix b 0) (st (zE (b := b) (o := 0) rfl (st (xR rfl (st (lD h lR rfl (zd (e.gblk K) rfl) (st (mV (Iw k) ?_))))))))))))))
 have bj : k < L.length := bo
 refine st (ze (k := 13) (i := k) rT nT rfl y.sl rfl bj (st (xq rfl ?_)))
 have T : k < L.length := bo
 obtain ⟨X, H, C⟩ := y.entD T
 have hsm76 : ((L.getD k default).ev.deps).length * 8 ≤ 140737488355328 := H.small
 have az := e.cells X (y.foot (ne_of_lt T))
 refine st (zg (k := 10) (cs := [Iv ((L.getD k default).ev.origin), Iv ((L.getD k default).ev.seq), Iv ((L.getD k default).ev.lam), p, Iv ((L.getD k default).ev.typ), Iv ((L.getD k default).ev.agg), Iv ((L.getD k default).ev.field), Iv ((L.getD k default).ev.op), Iv ((L.getD k default).ev.arg), Iv ((L.getD k default).ev.key)]) qT mT rfl rfl (CellsAt.sub az 0 (cs2 := [Iv ((L.getD k default).ev.origin), Iv ((L.getD k default).ev.seq), Iv ((L.getD k default).ev.lam), p, Iv ((L.getD k default).ev.typ), Iv ((L.getD k default).ev.agg), Iv ((L.getD k default).ev.field), Iv ((L.getD k default).ev.op), Iv ((L.getD k default).ev.arg), Iv ((L.getD k default).ev.key)]) rfl) (st (zr vR ?_)))
 intro w80 aV bk
 have au := e.new bk
 refine stn (zp (v := .agg (((L.getD k default).ev).cells p).toArray) (c' := (((L.getD k default).ev).cells p).toArray) mT rfl rfl (au.b0) (zW ⟨rfl, rfl, rfl, H.sl.one, rfl, rfl, rfl, rfl, rfl, rfl, trivial⟩) yqc rfl ?_)
 intro w82 bl
 have f := au.pt0 bl
 refine zb (za (zw kr (st (mV (Ix b 0) (st (zE (b := b) (o := 0) rfl (st (xR rfl (st (lD h lR rfl (zd (f.gblk K) rfl) (st (mV (Iw k) ?_))))))))))))
 have bm : k < L.length := bo
 refine st (ze (k := 13) (i := k) rT nT rfl y.sl rfl bm (st (xa rfl ?_)))
 have aA := f.cells X (y.foot (ne_of_lt T))
 refine st (lD (.bool ((L.getD k default).void)) mA rfl (aA.get (j := 10) rfl) (st (yc (a := (L.getD k default).void) rfl (st (mV (.bool (!((L.getD k default).void))) (stc (V := Ix aV 4) rfl rfl (fun bn => ?_) ?_))))))
 have bp := bn
 try simp only [zf] at bp
 exact yB rfl ⟨rfl, rfl⟩
 refine stc (V := Iv (((L.getD k default).ev).typ)) rfl rfl (fun av => ?_) ?_
 have bq := av
 try simp only [zf] at bq
 exact lD (Iv (((L.getD k default).ev).typ)) lT (if_pos av) (zd (f.b0) rfl) ⟨rfl, rfl⟩
 refine stc (V := Iv ty) rfl rfl (fun br => ?_) ?_
 have bs := br
 try simp only [zf] at bs
 exact mV (Iv ty) ⟨rfl, rfl⟩
 refine stc (V := .bool (decide ((((L.getD k default).ev).typ) = ty))) rfl rfl (fun U => ?_) ?_
 have bt := U
 try simp only [zf] at bt
 exact zF (k := .i64) (a := ((L.getD k default).ev).typ) (b := ty) (if_pos U) (if_pos U) ⟨rfl, rfl⟩
 refine st (zo (b := !((L.getD k default).void)) (b' := decide ((((L.getD k default).ev).typ) = ty)) rfl (fun hbp => (if_pos hbp)) (st (mV (.bool ((!((L.getD k default).void)) && (decide ((((L.getD k default).ev).typ) = ty)))) (stc (V := Ix aV 5) rfl rfl (fun bu => ?_) ?_))))
 have bv := bu
 try simp only [zf] at bv
 exact xl rfl ⟨rfl, rfl⟩
 refine stc (V := Iv (((L.getD k default).ev).agg)) rfl rfl (fun aw => ?_) ?_
 have bw := aw
 try simp only [zf] at bw
 exact lD (Iv (((L.getD k default).ev).agg)) lT (if_pos aw) (zd (f.b0) rfl) ⟨rfl, rfl⟩
 refine stc (V := Iv no) rfl rfl (fun aB => ?_) ?_
 have aC := aB
 try simp only [zf] at aC
 exact mV (Iv no) ⟨rfl, rfl⟩
 refine stc (V := .bool (decide ((((L.getD k default).ev).agg) = no))) rfl rfl (fun I => ?_) ?_
 have aD := I
 try simp only [zf] at aD
 exact zF (k := .i64) (a := ((L.getD k default).ev).agg) (b := no) (if_pos I) (if_pos I) ⟨rfl, rfl⟩
 refine st (zo (b := (!((L.getD k default).void)) && (decide ((((L.getD k default).ev).typ) = ty))) (b' := decide ((((L.getD k default).ev).agg) = no)) rfl (fun hbp => (if_pos hbp)) (zb ?_))
 cases x : ((!((L.getD k default).void)) && (decide ((((L.getD k default).ev).typ) = ty))) && (decide ((((L.getD k default).ev).agg) = no))
 have D := x
 try simp only [zf] at x
 have honfalse : onL (ty, no) (L.getD k default) = false := onL_raw.trans D
 refine zi rfl (zk (R0 fun _ => st (mV (Iw k) ?_)))
 have aE : InR ((k + 1 : Nat) : Int) := bo
 refine st (zH (r := ((k + 1 : Nat) : Int)) (k := .i64) (a := ((k : Nat) : Int)) (b := 1) rfl rfl (by rw [show (((k : Nat) : Int) + 1 : Int) = ((k + 1 : Nat) : Int) from bo]; exact zz aE) (st (aS (Iw (k + 1)) (zb ?_))))
 have q := f.s5_bcde
 have aF : yd (ty, no) (L.take (k + 1)) = yd (ty, no) (L.take k) := KO om honfalse
 try simp +zetaDelta only at q
 rw [← aF] at q
 have aG : zT d (ty, no) (L.take (k + 1)) = (zT d (ty, no) (L.take k)) := KK om honfalse
 try simp +zetaDelta only at q
 rw [← aG] at q
 exact ⟨_, by omega, k + 1, vs, _, rfl, sSf, by omega, q⟩
 have D := x
 try simp only [zf] at x
 have hontrue : onL (ty, no) (L.getD k default) = true := onL_raw.trans D
 have hdn := Ran.done hd hrl om hontrue
 refine zj rfl (za (R0 fun _ => st (zg (k := 1) sR sT rfl rfl (CellsAt.all (f.b3)) (st (yw rfl (st (lD vs nA rfl (zd (f.b1) rfl) (st (yU rfl (st (lD (Iv (((L.getD k default).ev).field)) lT rfl (zd (f.b0) rfl) (st (xh rfl (st (lD (Iv (((L.getD k default).ev).op)) lT rfl (zd (f.b0) rfl) (st (xg rfl (st (lD (Iv (((L.getD k default).ev).arg)) lT rfl (zd (f.b0) rfl) ?_)))))))))))))))))))
 obtain ⟨G110, aH, aI, aJ, aK⟩ := (f.mv2).lend
 have O := RowE.rd aH
 have hrd116s : _ * 32 ≤ _ := O.small
 refine st (cL Tryd.call50 (Qu (t := (d.types.getD ty.toNat default)) (c := (zT d (ty, no) (L.take k))) (vc := vs) (fi := ((L.getD k default).ev).field) (op := ((L.getD k default).ev).op) (arg := ((L.getD k default).ev).arg) (RdS.base m aI) N O C.ev.field C.ev.op C.ev.arg aJ (hdn.1) (hdn.2)) ?_)
 rintro E w118 ⟨_, rfl, Y⟩
 have Z := Y.r0
 have hr120s : _ * 32 ≤ _ := Z.2
 have aa := aK _ _ Y
 refine st (yw rfl (stn (yp (v := E) (c := [Iw (yd (ty, no) (L.take k)), vs]) (c' := [Iw (yd (ty, no) (L.take k)), E]) Tryd.sizeOf26 rfl rfl (aa.b3) Z.1.one rfl rfl ?_)))
 intro w122 aL
 have J := aa.pt3 aL
 refine zb (R0 fun _ => st (Zm rfl (st (lD (Iw (yd (ty, no) (L.take k))) lT rfl (zd (J.b3) rfl) ?_))))
 have aM : InR ((yd (ty, no) (L.take k) + 1 : Nat) : Int) := bo
 refine st (zH (r := ((yd (ty, no) (L.take k) + 1 : Nat) : Int)) (k := .i64) (a := ((yd (ty, no) (L.take k) : Nat) : Int)) (b := 1) rfl rfl (by rw [show (((yd (ty, no) (L.take k) : Nat) : Int) + 1 : Int) = ((yd (ty, no) (L.take k) + 1 : Nat) : Int) from bo]; exact zz aM) (st (Zm rfl (stn (yp (v := Iw (yd (ty, no) (L.take k) + 1)) (c := [Iw (yd (ty, no) (L.take k)), E]) (c' := [Iw (yd (ty, no) (L.take k) + 1), E]) Tryd.sizeOf3 rfl rfl (J.b3) rfl rfl rfl ?_)))))
 intro w126 aN
 refine zb (R0 fun _ => st (mV (Iw k) ?_))
 have aO : InR ((k + 1 : Nat) : Int) := bo
 refine st (zH (r := ((k + 1 : Nat) : Int)) (k := .i64) (a := ((k : Nat) : Int)) (b := 1) rfl rfl (by rw [show (((k : Nat) : Int) + 1 : Int) = ((k + 1 : Nat) : Int) from bo]; exact zz aO) (st (aS (Iw (k + 1)) (zb ?_))))
 have s := (J.pt3 aN).s6_dbef
 have aP : yd (ty, no) (L.take (k + 1)) = yd (ty, no) (L.take k) + 1 := KQ om hontrue
 try simp +zetaDelta only at s
 rw [← aP] at s
 have aQ : zT d (ty, no) (L.take (k + 1)) = (doL (d.types.getD ty.toNat default) (zT d (ty, no) (L.take k)) (((L.getD k default).ev).field) (((L.getD k default).ev).op) (((L.getD k default).ev).arg)) := Kj om hontrue
 try simp +zetaDelta only at s
 rw [← aQ] at s
 exact ⟨_, by omega, k + 1, E, _, rfl, sSf, by omega, s⟩
 try simp only [zf] at Q
 have l : yd (ty, no) L = 0 := hrl.zero om
 refine zj rfl (za (yD (by kernel_rfl) (fun _ => (st (zQ (parts' := []) (v := .agg #[Iv 0, (Iz)]) rfl yqf (stn (zp (v := .agg #[Iv 0, (Iz)]) (c' := #[Iv 0, (Iz)]) pT rfl rfl (u.b0) (zW ⟨rfl, rfl, trivial⟩) yqc rfl ?_)))))))
 intro bx aR
 have ab := u.pt0 aR
 refine st (aS (.bool false) (zb (zm (ZA (b := z) nY qR pT rfl rfl (CellsAt.all (ab.b0)) (show _ = (.bool false : Value) from rfl) ?_))))
 have aT : Sep G W ((RowE (α := Cel) own 42 (Iz) (stL d (ty, no) L)) :: (Blk z #[Iv 0, (Iz)] 68) :: Rs) bx := (by rw [(xV (d := d) l).2.2]; exact ab.rowNil own 42)
 refine ⟨(Iz), ?_, (aT.s2_a)⟩
 rw [(xV (d := d) l).1, (xV (d := d) l).2.1]; rfl

theorem rj_raw {d : Dcl} {e : Ev} {y : Ent} : rJ d e y = (((((!y.void) && decide (y.ev.typ = e.typ)) && decide (y.ev.agg = e.agg)) && decide (y.ev.field = e.field)) && yA ((xB d e.typ).fields.getD e.field.toNat default) y.ev e) := by
  unfold rJ on3
  cases y.void <;> simp [Bool.decide_and, Bool.and_assoc]
theorem XU {d : Dcl} {e : Ev} {L : List Ent} : (yf (e.typ, e.agg, e.field) L).find? (fun x => yA ((xB d e.typ).fields.getD e.field.toNat default) x e) = (L.find? (rJ d e)).map (·.ev) := by
  unfold yf
  rw [xM]
  rfl
theorem Ja {d : Dcl} {e : Ev} {L : List Ent} {k : Nat} (h : yE d e.typ e.field e.op e.arg = 0) (hk : k < L.length) (h0 : ∀ i, i < k → rJ d e (L.getD i default) = false) (h1 : rJ d e (L.getD k default) = true) : zJ d L e = (true, (L.getD k default).ev.origin, (L.getD k default).ev.seq) := by
  unfold zJ
  rw [if_neg (by simpa using h), XU, Xl hk h1 h0]
  rfl
theorem Qv {d : Dcl} {e : Ev} {L : List Ent} (h : yE d e.typ e.field e.op e.arg = 0) (h0 : ∀ i, i < L.length → rJ d e (L.getD i default) = false) : zJ d L e = (!decide (yY (xB d e.typ) (zT d (e.typ, e.agg) L) e.field e.op e.arg = 0), 0, 0) := by
  unfold zJ
  rw [if_neg (by simpa using h), XU, Vn h0]
  show (if ¬ _ = 0 then _ else _) = _
  by_cases hm : yY (xB d e.typ) (zT d (e.typ, e.agg) L) e.field e.op e.arg = 0
  · rw [if_neg (by simpa using hm), decide_eq_true hm]; rfl
  · rw [if_pos hm, decide_eq_false hm]; rfl
set_option maxHeartbeats 8000000 in
theorem UF {G : Nat → Prop} {W w : World} {Rs : List HP} {b : Nat} {d : Dcl} {L : List Ent} (hb : (RefV b d L).p W G) {e : Ev} {de0 : Value} (hde0 : RdS W G de0 e.deps) (oe : e.Ok) (hS0 : Sep G W Rs w) (hd : DclOk d) (hrl : Ran d L) (hml : L.length ≤ 1000000) : Ret Tryd.prog 61 [.pointer (some ⟨b, 0, none⟩), .agg (e.cells de0).toArray] w (fun r w' => r = (.tuple #[.bool ((zJ d L e).1), .agg #[.int .i64 ((zJ d L e).2.1), .int .i64 ((zJ d L e).2.2)]] : Value) ∧ (InR (zJ d L e).2.1 ∧ InR (zJ d L e).2.2) ∧ Sep G W Rs w') := by
 have hde0s : _ * 8 ≤ _ := hde0.small
 refine zl (args := [Ix b 0, .agg (e.cells de0).toArray]) Tryd.func61 rfl rfl ?_
 obtain ⟨g, bu, s, X, u, gf, am⟩ := RefV.sh hb
 let gF := Ix (sb g) (so g + e.typ.toNat * 1)
 let ck := zy W (sb g) (so g + e.typ.toNat * 1 + 0)
 let gH := (d.types.getD e.typ.toNat default).cells ck
 let p := zy W (sb (zy W (sb g) (so g + e.typ.toNat * 1 + 0))) (so (zy W (sb g) (so g + e.typ.toNat * 1 + 0)) + e.field.toNat * 4 + 3)
 let ci := (((d.types.getD e.typ.toNat default).fields).getD e.field.toNat default).cells p
 have hsm8 : d.types.length * 24 ≤ 140737488355328 := u.small
 have hsm9 : d.projs.length * 40 ≤ 140737488355328 := gf.small
 have hsm10 : L.length * 120 ≤ 140737488355328 := am.small
 refine za (R0 fun _ => st (zR (v := .agg (e.cells de0).toArray) rfl ?_))
 intro w13 m gj
 let gE := Blk m (e.cells de0).toArray 59
 refine st (aS (.bool false) (st (zr pA ?_)))
 intro w17 B gk
 let gG := Blk B #[Iv 0, Iv 0] 57
 refine zb (za (za ?_))
 refine WD4 ((fun TT C => WF [fun vals A => Sep G W (C :: TT) A, fun vals A => (vals 12 = (Iv (yE d e.typ e.field e.op e.arg) : Value)) ∧ Sep G W (C :: TT) A]) (gE :: Rs) gG) (AF [Vl 0 (Ix b 0), Vl 1 (Ix b 0), Vl 2 (Ix b 0), Vl 3 (.agg (d.cells g bu).toArray), Vl 4 (Ix m 4), Vl 5 (Iv (e.typ)), Vl 6 (Ix m 6), Vl 7 (Iv (e.field)), Vl 8 (Ix m 7), Vl 9 (Iv (e.op)), Vl 10 (Ix m 8), Vl 11 (Iv (e.arg)), fun _ => True, Vl 13 (.bool (!decide ((yE d e.typ e.field e.op e.arg) = 0)))]) [[], [0], [0, 1], [0, 1, 2], [], [4], [], [6], [], [8], [], [10], (rg 12), (rg 13)] [12] [(0, 0), (0, 0), (0, 0), (0, 0), (0, 0), (0, 0), (0, 0), (0, 0), (0, 0), (0, 0), (0, 0), (0, 0), (0, 0), (1, 1)] ((hS0.new gj).new gk) ⟨fun _ _ _ _ _ _ _ => obl rfl (mV (Ix b 0) dR), fun _ _ _ _ _ _ eB => obl rfl (zE (b := b) (o := 0) (eB 0 dc) dR), fun _ _ _ _ _ _ eC => obl rfl (Zn (eC 1 dc) dR), ?_, fun _ _ _ _ _ _ _ => obl rfl (yB rfl dR), ob1 0 fun _ _ (eD : Sep _ _ _ _) eE => obl rfl (lD (Iv (e.typ)) lT (eE 4 dc) (zd (eD.b1) rfl) dR), fun _ _ _ _ _ _ _ => obl rfl (yU rfl dR), ob1 0 fun _ _ (eF : Sep _ _ _ _) eG => obl rfl (lD (Iv (e.field)) lT (eG 6 dc) (zd (eF.b1) rfl) dR), fun _ _ _ _ _ _ _ => obl rfl (xh rfl dR), ob1 0 fun _ _ (eH : Sep _ _ _ _) eI => obl rfl (lD (Iv (e.op)) lT (eI 8 dc) (zd (eH.b1) rfl) dR), fun _ _ _ _ _ _ _ => obl rfl (xg rfl dR), ob1 0 fun _ _ (eJ : Sep _ _ _ _) eK => obl rfl (lD (Iv (e.arg)) lT (eK 10 dc) (zd (eJ.b1) rfl) dR), ?_, ?_, trivial⟩ ?_
 refine ob1 0 fun _ _ (eL : Sep _ _ _ _) eM => (obl rfl ?_)
 have ok154 : Dcl.Ok d := ⟨⟩
 exact zg (k := 2) (cs := [g, bu]) mR wT rfl (eM 2 dc) (CellsAt.sub (CellsAt.all (eL.gblk X)) 0 (cs2 := [g, bu]) rfl) dR
 refine ob1 0 fun vals _ (eN : Sep _ _ _ _) Y => (obl rfl ((zV (f := 89) (vals := [.agg (d.cells g bu).toArray, Iv (e.typ), Iv (e.field), Iv (e.op), Iv (e.arg)]) (cap := []) rfl (yH ⟨(Y 3 dc), (Y 5 dc), (Y 7 dc), (Y 9 dc), (Y 11 dc), trivial⟩) Tryd.call89 (UC (d := d) (ty := e.typ) (f := e.field) (op := e.op) (arg := e.arg) u gf (⟨⟩ : Dcl.Ok d) oe.typ oe.field oe.op oe.arg eN) ?_)))
 rintro _ w116 ⟨rfl, eO⟩
 exact fun E N I => ⟨(And.intro N eO), trivial⟩
 refine ob1 1 fun _ _ eP _ => ?_
 obtain ⟨bv, hS217⟩ := eP
 exact obl rfl (yh (k := .i64) (a := yE d e.typ e.field e.op e.arg) (b := 0) bv rfl dR)
 intro vals w218 eQ eR
 obtain ⟨bv, aD⟩ := eQ
 have gl := eR 13 dc
 refine zZ (kv := [(0, Ix b 0), (1, .agg (e.cells de0).toArray), (3, Ix m 0), (4, .bool false), (5, Ix B 0), (25, .bool (!decide ((yE d e.typ e.field e.op e.arg) = 0)))]) ⟨rfl, rfl, rfl, rfl, rfl, (by exact gl), trivial⟩ (fun ρw218 => (zb ?_))
 cases F : !decide ((yE d e.typ e.field e.op e.arg) = 0)
 have hc223r := F
 have F := zB F
 have hfo := ZK F
 have hfz := F
 have gg := hfo.1; have gh := hfo.2.1; have hft := hfo.2.2
 have hfl := hft.lo; have hfh := hft.hi
 refine zi rfl (zk (za ?_))
 refine WD4 ((fun TT C => WF [fun vals A => Sep G W (C :: TT) A, fun vals A => ∃ (q : Nat), (vals 14 = (Ix q 0 : Value)) ∧ Sep G W ((Blk q #[Iv 0, Iv 0, .bool false, (Iz)] 79) :: C :: TT) A, fun vals A => ∃ (q : Nat), (vals 14 = (Ix q 0 : Value)) ∧ Sep G W ((Blk q ci.toArray 79) :: C :: TT) A]) (gE :: Rs) gG) (AF [Vl 0 (Ix b 0), Vl 1 (Ix b 0), Vl 2 (Ix b 0), Vl 3 (Ix b 0), Vl 4 (g), Vl 5 (Ix m 4), Vl 6 (Iv (e.typ)), Vl 7 gF, Vl 8 gF, Vl 9 (ck), Vl 10 (Ix m 6), Vl 11 (Iv (e.field)), Vl 12 (Ix (sb ck) (so ck + e.field.toNat * 4)), Vl 13 (.agg ci.toArray), fun _ => True, fun _ => True]) [[], [0], [0, 1], [0, 1, 2], (rg 4), [], [5], (rg 7), (rg 8), (rg 9), [], [10], (rg 12), (rg 13), [], (rg 15)] [14, 15] [(0, 1), (0, 1), (0, 1), (0, 1), (0, 1), (0, 1), (0, 1), (0, 1), (0, 1), (0, 1), (0, 1), (0, 1), (0, 1), (0, 1), (0, 0), (1, 1)] aD ⟨fun _ _ _ _ _ _ _ => obl rfl (mV (Ix b 0) dR), fun _ _ _ _ _ _ eS => obl rfl (zE (b := b) (o := 0) (eS 0 dc) dR), fun _ _ _ _ _ _ eT => obl rfl (Zn (eT 1 dc) dR), fun _ _ _ _ _ _ eU => obl rfl (yn (eU 2 dc) dR), ?_, fun _ _ _ _ _ _ _ => obl rfl (yB rfl dR), ?_, ?_, fun _ _ _ _ _ _ eV => obl rfl (yv (eV 7 dc) dR), ?_, fun _ _ _ _ _ _ _ => obl rfl (yU rfl dR), ?_, ?_, ?_, ?_, ?_, trivial⟩ ?_
 refine fun aE _ _ gm gn bw bx => ?_
 have hkk : aE = 0 ∨ aE = 1 := by have h1 : 0 ≤ aE := gm; have h2 : aE ≤ 1 := gn; omega
 rcases hkk with rfl | rfl
 have eW : Sep _ _ _ _ := bw
 exact obl rfl (lD g oR (bx 3 dc) (zd (eW.gblk X) rfl) dR)
 obtain ⟨q, D, eX⟩ := bw
 exact obl rfl (lD g oR (bx 3 dc) (zd (eX.gblk X) rfl) dR)
 refine fun aF _ _ go gp bz bA => ?_
 have hkk : aF = 0 ∨ aF = 1 := by have h1 : 0 ≤ aF := go; have h2 : aF ≤ 1 := gp; omega
 rcases hkk with rfl | rfl
 have eY : Sep _ _ _ _ := bz
 exact obl rfl (lD (Iv (e.typ)) lT (bA 5 dc) (zd (eY.b1) rfl) dR)
 obtain ⟨q, D, eZ⟩ := bz
 exact obl rfl (lD (Iv (e.typ)) lT (bA 5 dc) (zd (eZ.b2) rfl) dR)
 refine fun aG _ _ gq gr bB ah => ?_
 have hkk : aG = 0 ∨ aG = 1 := by have h1 : 0 ≤ aG := gq; have h2 : aG ≤ 1 := gr; omega
 rcases hkk with rfl | rfl
 have hS436 : Sep _ _ _ _ := bB
 refine obl rfl ?_
 have hi439 : e.typ.toNat < d.types.length := bo
 exact zq (k := 1) (i := e.typ) pR sT (ah 4 dc) u.sl (ah 6 dc) ⟨by omega, by omega⟩ dR
 obtain ⟨q, D, hS440⟩ := bB
 refine obl rfl ?_
 have hi443 : e.typ.toNat < d.types.length := bo
 exact zq (k := 1) (i := e.typ) pR sT (ah 4 dc) u.sl (ah 6 dc) ⟨by omega, by omega⟩ dR
 refine fun aH _ _ gs gt bC bD => ?_
 have hkk : aH = 0 ∨ aH = 1 := by have h1 : 0 ≤ aH := gs; have h2 : aH ≤ 1 := gt; omega
 rcases hkk with rfl | rfl
 have fa : Sep _ _ _ _ := bC
 refine obl rfl ?_
 have bE : e.typ.toNat < d.types.length := bo
 obtain ⟨cx, bm, hoke459⟩ := u.typD bE
 have hsm461 : ((d.types.getD e.typ.toNat default).fields).length * 48 ≤ 140737488355328 := bm.small
 have cy := fa.cells cx (u.foot (ne_of_lt bE))
 exact lD ck qA (bD 8 dc) (cy.get (j := 0) rfl) dR
 obtain ⟨q, D, fb⟩ := bC
 refine obl rfl ?_
 have bF : e.typ.toNat < d.types.length := bo
 obtain ⟨cz, bn, hoke465⟩ := u.typD bF
 have hsm467 : ((d.types.getD e.typ.toNat default).fields).length * 48 ≤ 140737488355328 := bn.small
 have cA := fb.cells cz (u.foot (ne_of_lt bF))
 exact lD ck qA (bD 8 dc) (cA.get (j := 0) rfl) dR
 refine fun aI _ _ gu gv bG bH => ?_
 have hkk : aI = 0 ∨ aI = 1 := by have h1 : 0 ≤ aI := gu; have h2 : aI ≤ 1 := gv; omega
 rcases hkk with rfl | rfl
 have fc : Sep _ _ _ _ := bG
 exact obl rfl (lD (Iv (e.field)) lT (bH 10 dc) (zd (fc.b1) rfl) dR)
 obtain ⟨q, D, fd⟩ := bG
 exact obl rfl (lD (Iv (e.field)) lT (bH 10 dc) (zd (fd.b2) rfl) dR)
 refine fun aJ _ _ gw gx bI ai => ?_
 have hkk : aJ = 0 ∨ aJ = 1 := by have h1 : 0 ≤ aJ := gw; have h2 : aJ ≤ 1 := gx; omega
 rcases hkk with rfl | rfl
 have fe : Sep _ _ _ _ := bI
 refine obl rfl ?_
 have bJ : e.typ.toNat < d.types.length := bo
 obtain ⟨cB, an, hoke494⟩ := u.typD bJ
 have hsm496 : ((d.types.getD e.typ.toNat default).fields).length * 48 ≤ 140737488355328 := an.small
 have hcw497 := fe.cells cB (u.foot (ne_of_lt bJ))
 have hi498 : e.field.toNat < ((d.types.getD e.typ.toNat default).fields).length := bo
 exact zq (k := 4) (i := e.field) rA tR (ai 9 dc) an.sl (ai 11 dc) ⟨by omega, by omega⟩ dR
 obtain ⟨q, D, ff⟩ := bI
 refine obl rfl ?_
 have bK : e.typ.toNat < d.types.length := bo
 obtain ⟨cC, ao, hoke502⟩ := u.typD bK
 have hsm504 : ((d.types.getD e.typ.toNat default).fields).length * 48 ≤ 140737488355328 := ao.small
 have hcw505 := ff.cells cC (u.foot (ne_of_lt bK))
 have hi506 : e.field.toNat < ((d.types.getD e.typ.toNat default).fields).length := bo
 exact zq (k := 4) (i := e.field) rA tR (ai 9 dc) ao.sl (ai 11 dc) ⟨by omega, by omega⟩ dR
 refine fun aK _ _ gy gz bL bM => ?_
 have hkk : aK = 0 ∨ aK = 1 := by have h1 : 0 ≤ aK := gy; have h2 : aK ≤ 1 := gz; omega
 rcases hkk with rfl | rfl
 have bN : Sep _ _ _ _ := bL
 refine obl rfl ?_
 have bO : e.typ.toNat < d.types.length := bo
 obtain ⟨cD, R, hoke516⟩ := u.typD bO
 have hsm518 : ((d.types.getD e.typ.toNat default).fields).length * 48 ≤ 140737488355328 := R.small
 have hcw519 := bN.cells cD (u.foot (ne_of_lt bO))
 have bP : e.field.toNat < ((d.types.getD e.typ.toNat default).fields).length := bo
 obtain ⟨cE, bp, hoke515⟩ := R.fldD bP
 have hsm521 : ((((d.types.getD e.typ.toNat default).fields).getD e.field.toNat default).moves).length * 32 ≤ 140737488355328 := bp.small
 have cF := bN.cells cE (R.foot (ne_of_lt bP))
 exact zg (k := 4) oY tR rfl (bM 12 dc) cF dR
 obtain ⟨q, D, bQ⟩ := bL
 refine obl rfl ?_
 have bR : e.typ.toNat < d.types.length := bo
 obtain ⟨cG, S, hoke526⟩ := u.typD bR
 have hsm528 : ((d.types.getD e.typ.toNat default).fields).length * 48 ≤ 140737488355328 := S.small
 have hcw529 := bQ.cells cG (u.foot (ne_of_lt bR))
 have bS : e.field.toNat < ((d.types.getD e.typ.toNat default).fields).length := bo
 obtain ⟨cH, bq, hoke525⟩ := S.fldD bS
 have hsm531 : ((((d.types.getD e.typ.toNat default).fields).getD e.field.toNat default).moves).length * 32 ≤ 140737488355328 := bq.small
 have cI := bQ.cells cH (S.foot (ne_of_lt bS))
 exact zg (k := 4) oY tR rfl (bM 12 dc) cI dR
 refine ob1 0 fun _ _ (fg : Sep _ _ _ _) _ => (obl rfl ((zr Tryd.zeroValue79 ?_)))
 intro w355 q fh
 exact fun E N I => ⟨(Exists.intro q (And.intro N (fg.new fh))), trivial⟩
 refine ob1 1 fun _ _ fj fk => ?_
 obtain ⟨q, D, aj⟩ := fj
 refine obl rfl ?_
 have bT : e.typ.toNat < d.types.length := bo
 obtain ⟨cJ, T, hoke369⟩ := u.typD bT
 have hsm371 : ((d.types.getD e.typ.toNat default).fields).length * 48 ≤ 140737488355328 := T.small
 have hcw372 := aj.cells cJ (u.foot (ne_of_lt bT))
 have bU : e.field.toNat < ((d.types.getD e.typ.toNat default).fields).length := bo
 obtain ⟨cK, ap, hoke368⟩ := T.fldD bU
 have hsm374 : ((((d.types.getD e.typ.toNat default).fields).getD e.field.toNat default).moves).length * 32 ≤ 140737488355328 := ap.small
 have hcw375 := aj.cells cK (T.foot (ne_of_lt bU))
 refine (zp (v := .agg ci.toArray) (c' := ci.toArray) tR D (fk 13 dc) (aj.b0) (zW ⟨rfl, rfl, rfl, ap.sl.one, trivial⟩) yqc rfl ?_)
 intro w366 fl
 exact fun E N I => ⟨(Exists.intro q (And.intro ((I 14 dc).trans D) (aj.pt0 fl))), trivial⟩
 intro vals w533 fm hA535
 obtain ⟨q, D, fn⟩ := fm
 let gI := Blk q ci.toArray 79
 refine zZ (kv := [(0, Ix b 0), (1, .agg (e.cells de0).toArray), (3, Ix m 0), (4, .bool false), (5, Ix B 0), (25, .bool false), (6, Ix q 0)]) ⟨rfl, rfl, rfl, rfl, rfl, rfl, (by exact D), trivial⟩ (fun ρw533 => (zb (za (za (R0 fun _ => st (aS (Iv 0) (zb (zn ?_))))))))
 refine zX (fun mq σ A => ∃ (k : Nat) (ρ : Env), mq = L.length - k ∧ σ = yb ρ [(0, Ix b 0), (3, Ix m 0), (4, .bool false), (5, Ix B 0), (6, Ix q 0), (7, Iw k)] ∧ (k ≤ L.length) ∧ (∀ i, i < k → rJ d e (L.getD i default) = false) ∧ Sep G W ((Blk q ((((d.types.getD e.typ.toNat default).fields).getD e.field.toNat default).cells (zy W (sb (zy W (sb g) (so g + e.typ.toNat * 1 + 0))) (so (zy W (sb g) (so g + e.typ.toNat * 1 + 0)) + e.field.toNat * 4 + 3))).toArray 79) :: (Blk B #[Iv 0, Iv 0] 57) :: (Blk m (e.cells de0).toArray 59) :: Rs) A) ⟨0, _, rfl, sSf, Nat.zero_le _, (fun i h => absurd h (Nat.not_lt_zero i)), fn⟩ ?_
 rintro m538 σ539 w537 ⟨k, ρl1, rfl, rfl, hkk, hno, J⟩
 let gC := zy W (sb s) (so s + k * 13 + 3)
 let gD := ((L.getD k default).ev).cells gC
 refine za (za (R0 fun _ => st (mV (Iw k) (st (mV (Ix b 0) (st (zE (b := b) (o := 0) rfl (st (xR rfl (st (lD s lR rfl (zd (J.gblk X) rfl) (st (zA (n := L.length) rT rfl am.sl (st (zD (k := .i64) (a := ((k : Nat) : Int)) (b := ((L.length : Nat) : Int)) rfl rfl (zb ?_))))))))))))))))
 cases Z : decide (((k : Nat) : Int) < ((L.length : Nat) : Int))
 have hc541r := Z
 have Z := fD Z
 have hT := Qv (L := L) hfz (fun i hi => hno i om)
 refine zi rfl (zU (zI (za (R0 fun _ => st (mV (Ix b 0) (st (yB rfl (st (lD (Iv (e.typ)) lT rfl (zd (J.b2) rfl) (st (xl rfl (st (lD (Iv (e.agg)) lT rfl (zd (J.b2) rfl) (st (cL pY (ZX (ty := e.typ) (no := e.agg) hb oe.typ oe.agg J (hd) (hrl) (hml)) ?_)))))))))))))))
 rintro _ w543 ⟨l, rfl, bV⟩
 let cj := (ye d (e.typ, e.agg) L).cells l
 have bW := bV.r0
 have hr545s : _ * 32 ≤ _ := bW.2
 refine st (mV (.tuple #[.agg cj.toArray, .bool ((zh d L (e.typ, e.agg)).isSome)]) (st (zt (vs := [.agg cj.toArray, .bool ((zh d L (e.typ, e.agg)).isSome)]) (i := 0) (v := .agg cj.toArray) rfl rfl (st (zt (vs := [.agg cj.toArray, .bool ((zh d L (e.typ, e.agg)).isSome)]) (i := 1) (v := .bool ((zh d L (e.typ, e.agg)).isSome)) rfl rfl (st (zr nR ?_)))))))
 intro w548 K fo
 have bX := bV.new fo
 refine stn (zp (v := .agg cj.toArray) (c' := cj.toArray) pT rfl rfl (bX.b0) (zW ⟨rfl, bW.1.one, trivial⟩) yqc rfl ?_)
 intro w550 fp
 have aL := bX.pt0 fp
 refine st (aS (.bool ((zh d L (e.typ, e.agg)).isSome)) (zb (za (R0 fun _ => st (yw rfl (st (lD l nA rfl (zd (aL.b0) rfl) (st (aS l (zb (za (za (R0 fun _ => st (mV (.bool ((zh d L (e.typ, e.agg)).isSome)) (st (yc (a := (zh d L (e.typ, e.agg)).isSome) rfl (zb ?_)))))))))))))))))
 cases H : !((zh d L (e.typ, e.agg)).isSome)
 have aq := H
 try simp only [zf] at H
 have ar : (zh d L (e.typ, e.agg)).isSome = true := by simpa using aq
 replace H := ar
 refine zi rfl (zk (za ?_))
 have aM := aL.mv1
 rw [show (stL d (e.typ, e.agg) L) = (zT d (e.typ, e.agg) L) from if_neg (WY H)] at aM
 have fq := aM.r0
 have hr555s : _ * 32 ≤ _ := fq.2
 refine WD4 ((fun TT C => WF [fun vals A => Sep G W (C :: TT) A, fun vals A => (vals 16 = (Iv ((yY (d.types.getD e.typ.toNat default) (zT d (e.typ, e.agg) L) e.field e.op e.arg)) : Value)) ∧ Sep G W (C :: TT) A, fun vals A => (vals 16 = (Iv ((yY (d.types.getD e.typ.toNat default) (zT d (e.typ, e.agg) L) e.field e.op e.arg)) : Value)) ∧ Sep G W (C :: TT) A]) ((Blk K cj.toArray 68) :: gI :: gG :: gE :: Rs) (RowE (α := Cel) own 42 l (zT d (e.typ, e.agg) L))) (AF [Vl 0 (Ix b 0), Vl 1 (Ix b 0), Vl 2 (Ix b 0), Vl 3 (Ix b 0), Vl 4 (g), Vl 5 (Ix m 4), Vl 6 (Iv (e.typ)), Vl 7 gF, Vl 8 (.agg gH.toArray), Vl 9 (l), Vl 10 (Ix m 6), Vl 11 (Iv (e.field)), Vl 12 (Ix m 7), Vl 13 (Iv (e.op)), Vl 14 (Ix m 8), Vl 15 (Iv (e.arg)), fun _ => True, Vl 17 (.bool (!decide ((yY (d.types.getD e.typ.toNat default) (zT d (e.typ, e.agg) L) e.field e.op e.arg) = 0))), Vl 18 (.agg #[Iv 0, Iv 0]), Vl 19 (.bool (!decide ((yY (d.types.getD e.typ.toNat default) (zT d (e.typ, e.agg) L) e.field e.op e.arg) = 0))), fun _ => True]) [[], [0], [0, 1], [0, 1, 2], (rg 4), [], [5], (rg 7), (rg 8), [], [], [10], [], [12], [], [14], (rg 16), (rg 17), [], (rg 18), (rg 20)] [16, 20] [(0, 0), (0, 0), (0, 0), (0, 0), (0, 0), (0, 0), (0, 0), (0, 0), (0, 0), (0, 0), (0, 0), (0, 0), (0, 0), (0, 0), (0, 0), (0, 0), (0, 0), (1, 1), (0, 1), (1, 1), (1, 1)] aM ⟨fun _ _ _ _ _ _ _ => obl rfl (mV (Ix b 0) dR), fun _ _ _ _ _ _ fr => obl rfl (zE (b := b) (o := 0) (fr 0 (by decide)) dR), fun _ _ _ _ _ _ fs => obl rfl (Zn (fs 1 (by decide)) dR), fun _ _ _ _ _ _ ft => obl rfl (yn (ft 2 (by decide)) dR), ob1 0 fun _ _ (fu : Sep _ _ _ _) fv => obl rfl (lD g oR (fv 3 (by decide)) (zd (fu.gblk X) rfl) dR), fun _ _ _ _ _ _ _ => obl rfl (yB rfl dR), ob1 0 fun _ _ (fw : Sep _ _ _ _) fx => obl rfl (lD (Iv (e.typ)) lT (fx 5 (by decide)) (zd (fw.b4) rfl) dR), ?_, ?_, fun _ _ _ _ _ _ _ => obl rfl (mV l dR), fun _ _ _ _ _ _ _ => obl rfl (yU rfl dR), ob1 0 fun _ _ (fy : Sep _ _ _ _) fz => obl rfl (lD (Iv (e.field)) lT (fz 10 (by decide)) (zd (fy.b4) rfl) dR), fun _ _ _ _ _ _ _ => obl rfl (xh rfl dR), ob1 0 fun _ _ (fA : Sep _ _ _ _) fB => obl rfl (lD (Iv (e.op)) lT (fB 12 (by decide)) (zd (fA.b4) rfl) dR), fun _ _ _ _ _ _ _ => obl rfl (xg rfl dR), ob1 0 fun _ _ (fC : Sep _ _ _ _) fE => obl rfl (lD (Iv (e.arg)) lT (fE 14 (by decide)) (zd (fC.b4) rfl) dR), ?_, ?_, fun _ _ _ _ _ _ _ => obl rfl (zQ (parts' := []) (v := .agg #[Iv 0, Iv 0]) rfl yqf dR), fun _ _ _ _ _ _ fF => obl rfl (ym (v := .bool (!decide ((yY (d.types.getD e.typ.toNat default) (zT d (e.typ, e.agg) L) e.field e.op e.arg) = 0))) (fF 17 (by decide)) dR), ?_, trivial⟩ ?_
 refine ob1 0 fun _ _ _ bY => (obl rfl ?_)
 have hi791 : e.typ.toNat < d.types.length := bo
 exact zq (k := 1) (i := e.typ) pR sT (bY 4 dc) u.sl (bY 6 dc) ⟨by omega, by omega⟩ dR
 refine ob1 0 fun _ _ (fG : Sep _ _ _ _) fH => (obl rfl ?_)
 have bZ : e.typ.toNat < d.types.length := bo
 obtain ⟨cM, br, hoke800⟩ := u.typD bZ
 have hsm802 : ((d.types.getD e.typ.toNat default).fields).length * 48 ≤ 140737488355328 := br.small
 have cN := fG.cells cM (u.foot (ne_of_lt bZ))
 exact zg (k := 1) sR sT rfl (fH 7 dc) cN dR
 refine ob1 0 fun vals _ (ca : Sep _ _ _ _) aa => (obl rfl ?_)
 have cb : e.typ.toNat < d.types.length := bo
 obtain ⟨cO, au, cl⟩ := u.typD cb
 have hsm689 : ((d.types.getD e.typ.toNat default).fields).length * 48 ≤ 140737488355328 := au.small
 have hcw690 := ca.cells cO (u.foot (ne_of_lt cb))
 obtain ⟨G691, fI, fJ, fK, fL⟩ := ca.lend
 have aN := RowE.rd fI
 have hrd697s : _ * 32 ≤ _ := aN.small
 refine (zV (f := 91) (vals := [.agg ((d.types.getD e.typ.toNat default).cells (zy W (sb g) (so g + e.typ.toNat * 1 + 0))).toArray, l, Iv (e.field), Iv (e.op), Iv (e.arg)]) (cap := []) rfl (yH ⟨(aa 8 dc), (aa 9 dc), (aa 11 dc), (aa 13 dc), (aa 15 dc), trivial⟩) sA (WR (t := (d.types.getD e.typ.toNat default)) (c := (zT d (e.typ, e.agg) L)) (vc := l) (fi := e.field) (op := e.op) (arg := e.arg) (RdS.base au fJ) cl aN oe.field oe.op oe.arg fK ((hft.ask (hd.typ _ om) (hrl.inv hd e.typ e.agg gg gh)))) ?_)
 rintro _ w698 ⟨rfl, fM⟩
 have fN := fL _ _ fM
 exact fun E N I => ⟨(And.intro N fN), trivial⟩
 refine ob1 1 fun _ _ fO _ => ?_
 obtain ⟨ak, hS858⟩ := fO
 exact obl rfl (yh (k := .i64) (a := (yY (d.types.getD e.typ.toNat default) (zT d (e.typ, e.agg) L) e.field e.op e.arg)) (b := 0) ak rfl dR)
 refine ob1 1 fun _ _ fP fQ => ?_
 obtain ⟨ak, cc⟩ := fP
 refine obl rfl ((zp (v := .agg #[Iv 0, Iv 0]) (c' := #[Iv 0, Iv 0]) oT rfl (fQ 18 dc) (cc.b3) (zW ⟨rfl, rfl, trivial⟩) yqc rfl ?_))
 intro w730 fR
 exact fun E N I => ⟨(And.intro ((I 16 dc).trans ak) (cc.pt3 fR)), trivial⟩
 intro vals gA fS fT
 obtain ⟨ak, cd⟩ := fS
 have gB := fT 19 dc
 refine zZ (kv := [(0, Ix b 0), (3, Ix m 0), (4, .bool (!decide ((yY (d.types.getD e.typ.toNat default) (zT d (e.typ, e.agg) L) e.field e.op e.arg) = 0))), (5, Ix B 0), (6, Ix q 0), (7, Iw k), (41, Iw k), (42, Ix b 0), (43, Ix b 0), (44, Ix b 2), (45, s), (46, Iw L.length), (47, .bool false), (97, Ix b 0), (98, Ix m 4), (99, Iv (e.typ)), (100, Ix m 5), (101, Iv (e.agg)), (102, .tuple #[.agg cj.toArray, .bool ((zh d L (e.typ, e.agg)).isSome)]), (96, .tuple #[.agg cj.toArray, .bool ((zh d L (e.typ, e.agg)).isSome)]), (103, .agg cj.toArray), (104, .bool ((zh d L (e.typ, e.agg)).isSome)), (9, Ix K 0), (10, .bool ((zh d L (e.typ, e.agg)).isSome)), (105, Ix K 1), (106, l), (11, l), (107, .bool ((zh d L (e.typ, e.agg)).isSome)), (108, .bool false)]) ⟨rfl, rfl, (by exact gB), rfl, rfl, rfl, rfl, rfl, rfl, rfl, rfl, rfl, rfl, rfl, rfl, rfl, rfl, rfl, rfl, rfl, rfl, rfl, rfl, rfl, rfl, rfl, rfl, rfl, rfl, trivial⟩ (fun ρw872 => ?_)
 refine zb (zm (ZF (b := B) lY tT oT rfl rfl (CellsAt.all (cd.b3)) (show _ = (.bool (!decide ((yY (d.types.getD e.typ.toNat default) (zT d (e.typ, e.agg) L) e.field e.op e.arg) = 0)) : Value) from rfl) ?_))
 have fU : Sep G W Rs gA := cd.sel 5 [] (Nat.le_add_left _ _) rfl rfl
 rw [hT]
 refine ⟨rfl, ?_, fU⟩
 exact ⟨(by decide : InR 0), (by decide : InR 0)⟩
 have aq := H
 try simp only [zf] at H
 have ar : (zh d L (e.typ, e.agg)).isSome = false := by simpa using aq
 replace H := ar
 refine zj rfl ?_
 refine WD4 ((fun TT C => WF [fun vals A => Sep G W (C :: TT) A, fun vals A => ∃ (z : Value), (vals 9 = (z : Value)) ∧ Sep G W ((RowE (α := Cel) own 42 z (List.replicate (d.types.getD e.typ.toNat default).fields.length (⟨0, []⟩ : Cel))) :: C :: TT) A]) ((RowE (α := Cel) own 42 l (stL d (e.typ, e.agg) L)) :: gI :: gG :: gE :: Rs) (Blk K cj.toArray 68)) (AF [Vl 0 (Ix b 0), Vl 1 (Ix b 0), Vl 2 (Ix b 0), Vl 3 (Ix b 0), Vl 4 (g), Vl 5 (Ix m 4), Vl 6 (Iv (e.typ)), Vl 7 gF, Vl 8 (.agg gH.toArray), fun _ => True, fun vals => ∀ (z : Value), vals 9 = (z : Value) → vals 10 = (z : Value)]) [[], [0], [0, 1], [0, 1, 2], (rg 4), [], [5], (rg 7), (rg 8), (rg 9), (rg 10)] [9] [(0, 0), (0, 0), (0, 0), (0, 0), (0, 0), (0, 0), (0, 0), (0, 0), (0, 0), (0, 0), (1, 1)] aL ⟨fun _ _ _ _ _ _ _ => obl rfl (mV (Ix b 0) dR), fun _ _ _ _ _ _ fV => obl rfl (zE (b := b) (o := 0) (fV 0 dc) dR), fun _ _ _ _ _ _ fW => obl rfl (Zn (fW 1 dc) dR), fun _ _ _ _ _ _ fX => obl rfl (yn (fX 2 dc) dR), ob1 0 fun _ _ (cP : Sep _ _ _ _) cQ => obl rfl (lD g oR (cQ 3 dc) (zd (cP.gblk X) rfl) dR), fun _ _ _ _ _ _ _ => obl rfl (yB rfl dR), ob1 0 fun _ _ (cR : Sep _ _ _ _) cS => obl rfl (lD (Iv (e.typ)) lT (cS 5 dc) (zd (cR.b4) rfl) dR), ?_, ?_, ?_, ?_, trivial⟩ ?_ (hlocA := yT ⟨dA, dA, dA, dA, dA, dA, dA, dA, dA, dT, fun vals E N h => fun z ce => (N 10 (.inl rfl)).trans (h z ((N 9 (.inr dc)).symm.trans ce)), trivial⟩)
 refine ob1 0 fun _ _ _ aO => (obl rfl ?_)
 have hi1031 : e.typ.toNat < d.types.length := bo
 exact zq (k := 1) (i := e.typ) pR sT (aO 4 dc) u.sl (aO 6 dc) ⟨by omega, by omega⟩ dR
 refine ob1 0 fun _ _ (cT : Sep _ _ _ _) cU => (obl rfl ?_)
 have aP : e.typ.toNat < d.types.length := bo
 obtain ⟨cm, aQ, hoke1040⟩ := u.typD aP
 have hsm1042 : ((d.types.getD e.typ.toNat default).fields).length * 48 ≤ 140737488355328 := aQ.small
 have cn := cT.cells cm (u.foot (ne_of_lt aP))
 exact zg (k := 1) sR sT rfl (cU 7 dc) cn dR
 refine ob1 0 fun vals _ (cf : Sep _ _ _ _) fY => (obl rfl ?_)
 have cg : e.typ.toNat < d.types.length := bo
 obtain ⟨cV, av, co⟩ := u.typD cg
 have hsm959 : ((d.types.getD e.typ.toNat default).fields).length * 48 ≤ 140737488355328 := av.small
 have hcw960 := cf.cells cV (u.foot (ne_of_lt cg))
 refine (zV (f := 64) (vals := [.agg gH.toArray]) (cap := []) rfl (yH ⟨(fY 8 dc), trivial⟩) lA (Xh (t := (d.types.getD e.typ.toNat default)) av co cf) ?_)
 rintro z w962 ⟨_, rfl, ch⟩
 have fZ := ch.r0
 have hr964s : _ * 32 ≤ _ := fZ.2
 exact fun E N I => ⟨(Exists.intro z (And.intro N ch)), trivial⟩
 refine ob1 1 fun _ _ cW _ => ?_
 obtain ⟨z, al, hS1050⟩ := cW
 refine obl rfl (ym (v := z) al (fun E N I => ⟨rfl, ?_⟩))
 intro v961q ce
 rw [I 9 (by decide)] at ce; cases al.symm.trans ce
 exact N
 intro vals w1051 cX cY
 obtain ⟨z, al, aw⟩ := cX
 have ga : vals 10 = (z : Value) := cY 10 dc z al
 refine zZ (kv := [(0, Ix b 0), (3, Ix m 0), (4, .bool false), (5, Ix B 0), (6, Ix q 0), (7, Iw k), (41, Iw k), (42, Ix b 0), (43, Ix b 0), (44, Ix b 2), (45, s), (46, Iw L.length), (47, .bool false), (97, Ix b 0), (98, Ix m 4), (99, Iv (e.typ)), (100, Ix m 5), (101, Iv (e.agg)), (102, .tuple #[.agg cj.toArray, .bool ((zh d L (e.typ, e.agg)).isSome)]), (96, .tuple #[.agg cj.toArray, .bool ((zh d L (e.typ, e.agg)).isSome)]), (103, .agg cj.toArray), (104, .bool ((zh d L (e.typ, e.agg)).isSome)), (9, Ix K 0), (10, .bool ((zh d L (e.typ, e.agg)).isSome)), (105, Ix K 1), (106, l), (11, z), (107, .bool ((zh d L (e.typ, e.agg)).isSome)), (108, .bool true)]) ⟨rfl, rfl, rfl, rfl, rfl, rfl, rfl, rfl, rfl, rfl, rfl, rfl, rfl, rfl, rfl, rfl, rfl, rfl, rfl, rfl, rfl, rfl, rfl, rfl, rfl, rfl, (by exact ga), rfl, rfl, trivial⟩ (fun ρw1051 => ?_)
 refine zb (za ?_)
 rw [show (List.replicate (d.types.getD e.typ.toNat default).fields.length (⟨0, []⟩ : Cel)) = (zT d (e.typ, e.agg) L) from (Kg (d := d) (Vx H)).symm] at aw
 have cZ := aw.r0
 have hr1056s : _ * 32 ≤ _ := cZ.2
 refine WD4 ((fun TT C => WF [fun vals A => Sep G W (C :: TT) A, fun vals A => (vals 16 = (Iv ((yY (d.types.getD e.typ.toNat default) (zT d (e.typ, e.agg) L) e.field e.op e.arg)) : Value)) ∧ Sep G W (C :: TT) A, fun vals A => (vals 16 = (Iv ((yY (d.types.getD e.typ.toNat default) (zT d (e.typ, e.agg) L) e.field e.op e.arg)) : Value)) ∧ Sep G W (C :: TT) A]) ((Blk K cj.toArray 68) :: (RowE (α := Cel) own 42 l (stL d (e.typ, e.agg) L)) :: gI :: gG :: gE :: Rs) (RowE (α := Cel) own 42 z (zT d (e.typ, e.agg) L))) (AF [Vl 0 (Ix b 0), Vl 1 (Ix b 0), Vl 2 (Ix b 0), Vl 3 (Ix b 0), Vl 4 (g), Vl 5 (Ix m 4), Vl 6 (Iv (e.typ)), Vl 7 gF, Vl 8 (.agg gH.toArray), Vl 9 (z), Vl 10 (Ix m 6), Vl 11 (Iv (e.field)), Vl 12 (Ix m 7), Vl 13 (Iv (e.op)), Vl 14 (Ix m 8), Vl 15 (Iv (e.arg)), fun _ => True, Vl 17 (.bool (!decide ((yY (d.types.getD e.typ.toNat default) (zT d (e.typ, e.agg) L) e.field e.op e.arg) = 0))), Vl 18 (.agg #[Iv 0, Iv 0]), Vl 19 (.bool (!decide ((yY (d.types.getD e.typ.toNat default) (zT d (e.typ, e.agg) L) e.field e.op e.arg) = 0))), fun _ => True]) [[], [0], [0, 1], [0, 1, 2], (rg 4), [], [5], (rg 7), (rg 8), [], [], [10], [], [12], [], [14], (rg 16), (rg 17), [], (rg 18), (rg 20)] [16, 20] [(0, 0), (0, 0), (0, 0), (0, 0), (0, 0), (0, 0), (0, 0), (0, 0), (0, 0), (0, 0), (0, 0), (0, 0), (0, 0), (0, 0), (0, 0), (0, 0), (0, 0), (1, 1), (0, 1), (1, 1), (1, 1)] aw ⟨fun _ _ _ _ _ _ _ => obl rfl (mV (Ix b 0) dR), fun _ _ _ _ _ _ da => obl rfl (zE (b := b) (o := 0) (da 0 (by decide)) dR), fun _ _ _ _ _ _ db => obl rfl (Zn (db 1 (by decide)) dR), fun _ _ _ _ _ _ dd => obl rfl (yn (dd 2 (by decide)) dR), ob1 0 fun _ _ (de : Sep _ _ _ _) df => obl rfl (lD g oR (df 3 (by decide)) (zd (de.gblk X) rfl) dR), fun _ _ _ _ _ _ _ => obl rfl (yB rfl dR), ob1 0 fun _ _ (dg : Sep _ _ _ _) dh => obl rfl (lD (Iv (e.typ)) lT (dh 5 (by decide)) (zd (dg.b5) rfl) dR), ?_, ?_, fun _ _ _ _ _ _ _ => obl rfl (mV z dR), fun _ _ _ _ _ _ _ => obl rfl (yU rfl dR), ob1 0 fun _ _ (di : Sep _ _ _ _) dj => obl rfl (lD (Iv (e.field)) lT (dj 10 (by decide)) (zd (di.b5) rfl) dR), fun _ _ _ _ _ _ _ => obl rfl (xh rfl dR), ob1 0 fun _ _ (dk : Sep _ _ _ _) dl => obl rfl (lD (Iv (e.op)) lT (dl 12 (by decide)) (zd (dk.b5) rfl) dR), fun _ _ _ _ _ _ _ => obl rfl (xg rfl dR), ob1 0 fun _ _ (dm : Sep _ _ _ _) dp => obl rfl (lD (Iv (e.arg)) lT (dp 14 (by decide)) (zd (dm.b5) rfl) dR), ?_, ?_, fun _ _ _ _ _ _ _ => obl rfl (zQ (parts' := []) (v := .agg #[Iv 0, Iv 0]) rfl yqf dR), fun _ _ _ _ _ _ dq => obl rfl (ym (v := .bool (!decide ((yY (d.types.getD e.typ.toNat default) (zT d (e.typ, e.agg) L) e.field e.op e.arg) = 0))) (dq 17 (by decide)) dR), ?_, trivial⟩ ?_
 refine ob1 0 fun _ _ _ aR => (obl rfl ?_)
 have hi1292 : e.typ.toNat < d.types.length := bo
 exact zq (k := 1) (i := e.typ) pR sT (aR 4 dc) u.sl (aR 6 dc) ⟨by omega, by omega⟩ dR
 refine ob1 0 fun _ _ (dr : Sep _ _ _ _) ds => (obl rfl ?_)
 have aT : e.typ.toNat < d.types.length := bo
 obtain ⟨cp, aU, hoke1301⟩ := u.typD aT
 have hsm1303 : ((d.types.getD e.typ.toNat default).fields).length * 48 ≤ 140737488355328 := aU.small
 have cq := dr.cells cp (u.foot (ne_of_lt aT))
 exact zg (k := 1) sR sT rfl (ds 7 dc) cq dR
 refine ob1 0 fun vals _ (aV : Sep _ _ _ _) O => (obl rfl ?_)
 have aW : e.typ.toNat < d.types.length := bo
 obtain ⟨cr, af, bs⟩ := u.typD aW
 have hsm1190 : ((d.types.getD e.typ.toNat default).fields).length * 48 ≤ 140737488355328 := af.small
 have hcw1191 := aV.cells cr (u.foot (ne_of_lt aW))
 obtain ⟨G1192, dt, du, dv, dw⟩ := aV.lend
 have aB := RowE.rd dt
 have hrd1198s : _ * 32 ≤ _ := aB.small
 refine (zV (f := 91) (vals := [.agg ((d.types.getD e.typ.toNat default).cells (zy W (sb g) (so g + e.typ.toNat * 1 + 0))).toArray, z, Iv (e.field), Iv (e.op), Iv (e.arg)]) (cap := []) rfl (yH ⟨(O 8 dc), (O 9 dc), (O 11 dc), (O 13 dc), (O 15 dc), trivial⟩) sA (WR (t := (d.types.getD e.typ.toNat default)) (c := (zT d (e.typ, e.agg) L)) (vc := z) (fi := e.field) (op := e.op) (arg := e.arg) (RdS.base af du) bs aB oe.field oe.op oe.arg dv ((hft.ask (hd.typ _ om) (hrl.inv hd e.typ e.agg gg gh)))) ?_)
 rintro _ w1199 ⟨rfl, dx⟩
 have dy := dw _ _ dx
 exact fun E N I => ⟨(And.intro N dy), trivial⟩
 refine ob1 1 fun _ _ dz _ => ?_
 obtain ⟨ab, hS1359⟩ := dz
 exact obl rfl (yh (k := .i64) (a := (yY (d.types.getD e.typ.toNat default) (zT d (e.typ, e.agg) L) e.field e.op e.arg)) (b := 0) ab rfl dR)
 refine ob1 1 fun _ _ dB dC => ?_
 obtain ⟨ab, aX⟩ := dB
 refine obl rfl ((zp (v := .agg #[Iv 0, Iv 0]) (c' := #[Iv 0, Iv 0]) oT rfl (dC 18 dc) (aX.b4) (zW ⟨rfl, rfl, trivial⟩) yqc rfl ?_))
 intro w1231 dD
 exact fun E N I => ⟨(And.intro ((I 16 dc).trans ab) (aX.pt4 dD)), trivial⟩
 intro vals gc dE dF
 obtain ⟨ab, aY⟩ := dE
 have gd := dF 19 dc
 refine zZ (kv := [(0, Ix b 0), (3, Ix m 0), (4, .bool (!decide ((yY (d.types.getD e.typ.toNat default) (zT d (e.typ, e.agg) L) e.field e.op e.arg) = 0))), (5, Ix B 0), (6, Ix q 0), (7, Iw k), (41, Iw k), (42, Ix b 0), (43, Ix b 0), (44, Ix b 2), (45, s), (46, Iw L.length), (47, .bool false), (97, Ix b 0), (98, Ix m 4), (99, Iv (e.typ)), (100, Ix m 5), (101, Iv (e.agg)), (102, .tuple #[.agg cj.toArray, .bool ((zh d L (e.typ, e.agg)).isSome)]), (96, .tuple #[.agg cj.toArray, .bool ((zh d L (e.typ, e.agg)).isSome)]), (103, .agg cj.toArray), (104, .bool ((zh d L (e.typ, e.agg)).isSome)), (9, Ix K 0), (10, .bool ((zh d L (e.typ, e.agg)).isSome)), (105, Ix K 1), (106, l), (11, z), (107, .bool ((zh d L (e.typ, e.agg)).isSome)), (108, .bool true)]) ⟨rfl, rfl, (by exact gd), rfl, rfl, rfl, rfl, rfl, rfl, rfl, rfl, rfl, rfl, rfl, rfl, rfl, rfl, rfl, rfl, rfl, rfl, rfl, rfl, rfl, rfl, rfl, rfl, rfl, rfl, trivial⟩ (fun ρw1373 => ?_)
 refine zb (zm (ZF (b := B) lY tT oT rfl rfl (CellsAt.all (aY.b4)) (show _ = (.bool (!decide ((yY (d.types.getD e.typ.toNat default) (zT d (e.typ, e.agg) L) e.field e.op e.arg) = 0)) : Value) from rfl) ?_))
 have dG : Sep G W Rs gc := aY.sel 6 [] (Nat.le_add_left _ _) rfl rfl
 rw [hT]
 refine ⟨rfl, ?_, dG⟩
 exact ⟨(by decide : InR 0), (by decide : InR 0)⟩
 have Z := tD Z
 refine zj rfl (zk (za (zn (za (R0 fun _ => st (mV (Ix b 0) (st (zE (b := b) (o := 0) rfl (st (xR rfl (st (lD s lR rfl (zd (J.gblk X) rfl) (st (mV (Iw k) ?_))))))))))))))
 have dH : k < L.length := bo
 refine st (ze (k := 13) (i := k) rT nT rfl am.sl rfl dH (st (xq rfl ?_)))
 have ax : k < L.length := bo
 obtain ⟨aC, P, U⟩ := am.entD ax
 have hsm1382 : ((L.getD k default).ev.deps).length * 8 ≤ 140737488355328 := P.small
 have ct := J.cells aC (am.foot (ne_of_lt ax))
 refine st (zg (k := 10) (cs := [Iv ((L.getD k default).ev.origin), Iv ((L.getD k default).ev.seq), Iv ((L.getD k default).ev.lam), gC, Iv ((L.getD k default).ev.typ), Iv ((L.getD k default).ev.agg), Iv ((L.getD k default).ev.field), Iv ((L.getD k default).ev.op), Iv ((L.getD k default).ev.arg), Iv ((L.getD k default).ev.key)]) qT mT rfl rfl (CellsAt.sub ct 0 (cs2 := [Iv ((L.getD k default).ev.origin), Iv ((L.getD k default).ev.seq), Iv ((L.getD k default).ev.lam), gC, Iv ((L.getD k default).ev.typ), Iv ((L.getD k default).ev.agg), Iv ((L.getD k default).ev.field), Iv ((L.getD k default).ev.op), Iv ((L.getD k default).ev.arg), Iv ((L.getD k default).ev.key)]) rfl) (st (zr vR ?_)))
 intro w1386 M dI
 have aZ := J.new dI
 refine stn (zp (v := .agg gD.toArray) (c' := gD.toArray) mT rfl rfl (aZ.b0) (zW ⟨rfl, rfl, rfl, P.sl.one, rfl, rfl, rfl, rfl, rfl, rfl, trivial⟩) yqc rfl ?_)
 intro w1388 dJ
 have y := aZ.pt0 dJ
 refine zb (za (zw kr (st (mV (Ix b 0) (st (zE (b := b) (o := 0) rfl (st (xR rfl (st (lD s lR rfl (zd (y.gblk X) rfl) (st (mV (Iw k) ?_))))))))))))
 have dK : k < L.length := bo
 refine st (ze (k := 13) (i := k) rT nT rfl am.sl rfl dK (st (xa rfl ?_)))
 have cu := y.cells aC (am.foot (ne_of_lt ax))
 refine st (lD (.bool ((L.getD k default).void)) mA rfl (cu.get (j := 10) rfl) (st (yc (a := (L.getD k default).void) rfl (st (mV (.bool (!((L.getD k default).void))) (stc (V := Ix M 4) rfl rfl (fun dL => ?_) ?_))))))
 have dM := dL
 try simp only [zf] at dM
 exact yB rfl ⟨rfl, rfl⟩
 refine stc (V := Iv (((L.getD k default).ev).typ)) rfl rfl (fun ba => ?_) ?_
 have dN := ba
 try simp only [zf] at dN
 exact lD (Iv (((L.getD k default).ev).typ)) lT (if_pos ba) (zd (y.b0) rfl) ⟨rfl, rfl⟩
 refine stc (V := Ix m 4) rfl rfl (fun dO => ?_) ?_
 have dP := dO
 try simp only [zf] at dP
 exact yB rfl ⟨rfl, rfl⟩
 refine stc (V := Iv (e.typ)) rfl rfl (fun bb => ?_) ?_
 have dQ := bb
 try simp only [zf] at dQ
 exact lD (Iv (e.typ)) lT (if_pos bb) (zd (y.b3) rfl) ⟨rfl, rfl⟩
 refine stc (V := .bool (decide ((((L.getD k default).ev).typ) = e.typ))) rfl rfl (fun ay => ?_) ?_
 have dS := ay
 try simp only [zf] at dS
 exact zF (k := .i64) (a := ((L.getD k default).ev).typ) (b := e.typ) (if_pos ay) (if_pos ay) ⟨rfl, rfl⟩
 refine st (zo (b := !((L.getD k default).void)) (b' := decide ((((L.getD k default).ev).typ) = e.typ)) rfl (fun hbp => (if_pos hbp)) (st (mV (.bool ((!((L.getD k default).void)) && (decide ((((L.getD k default).ev).typ) = e.typ)))) (stc (V := Ix M 5) rfl rfl (fun dU => ?_) ?_))))
 have dV := dU
 try simp only [zf] at dV
 exact xl rfl ⟨rfl, rfl⟩
 refine stc (V := Iv (((L.getD k default).ev).agg)) rfl rfl (fun bc => ?_) ?_
 have dW := bc
 try simp only [zf] at dW
 exact lD (Iv (((L.getD k default).ev).agg)) lT (if_pos bc) (zd (y.b0) rfl) ⟨rfl, rfl⟩
 refine stc (V := Ix m 5) rfl rfl (fun dX => ?_) ?_
 have dY := dX
 try simp only [zf] at dY
 exact xl rfl ⟨rfl, rfl⟩
 refine stc (V := Iv (e.agg)) rfl rfl (fun bd => ?_) ?_
 have dZ := bd
 try simp only [zf] at dZ
 exact lD (Iv (e.agg)) lT (if_pos bd) (zd (y.b3) rfl) ⟨rfl, rfl⟩
 refine stc (V := .bool (decide ((((L.getD k default).ev).agg) = e.agg))) rfl rfl (fun az => ?_) ?_
 have ea := az
 try simp only [zf] at ea
 exact zF (k := .i64) (a := ((L.getD k default).ev).agg) (b := e.agg) (if_pos az) (if_pos az) ⟨rfl, rfl⟩
 refine st (zo (b := (!((L.getD k default).void)) && (decide ((((L.getD k default).ev).typ) = e.typ))) (b' := decide ((((L.getD k default).ev).agg) = e.agg)) rfl (fun hbp => (if_pos hbp)) (st (mV (.bool (((!((L.getD k default).void)) && (decide ((((L.getD k default).ev).typ) = e.typ))) && (decide ((((L.getD k default).ev).agg) = e.agg)))) (stc (V := Ix M 6) rfl rfl (fun eb => ?_) ?_))))
 have ec := eb
 try simp only [zf] at ec
 exact yU rfl ⟨rfl, rfl⟩
 refine stc (V := Iv (((L.getD k default).ev).field)) rfl rfl (fun be => ?_) ?_
 have ed := be
 try simp only [zf] at ed
 exact lD (Iv (((L.getD k default).ev).field)) lT (if_pos be) (zd (y.b0) rfl) ⟨rfl, rfl⟩
 refine stc (V := Ix m 6) rfl rfl (fun ee => ?_) ?_
 have ef := ee
 try simp only [zf] at ef
 exact yU rfl ⟨rfl, rfl⟩
 refine stc (V := Iv (e.field)) rfl rfl (fun bf => ?_) ?_
 have eg := bf
 try simp only [zf] at eg
 exact lD (Iv (e.field)) lT (if_pos bf) (zd (y.b3) rfl) ⟨rfl, rfl⟩
 refine stc (V := .bool (decide ((((L.getD k default).ev).field) = e.field))) rfl rfl (fun aA => ?_) ?_
 have eh := aA
 try simp only [zf] at eh
 exact zF (k := .i64) (a := ((L.getD k default).ev).field) (b := e.field) (if_pos aA) (if_pos aA) ⟨rfl, rfl⟩
 refine st (zo (b := ((!((L.getD k default).void)) && (decide ((((L.getD k default).ev).typ) = e.typ))) && (decide ((((L.getD k default).ev).agg) = e.agg))) (b' := decide ((((L.getD k default).ev).field) = e.field)) rfl (fun hbp => (if_pos hbp)) (st (mV (.bool ((((!((L.getD k default).void)) && (decide ((((L.getD k default).ev).typ) = e.typ))) && (decide ((((L.getD k default).ev).agg) = e.agg))) && (decide ((((L.getD k default).ev).field) = e.field)))) (stc (V := .agg ci.toArray) rfl rfl (fun ei => ?_) ?_))))
 have ej := ei
 try simp only [zf] at ej
 exact zg (k := 4) oY tR rfl rfl (CellsAt.all (y.b1)) ⟨rfl, rfl⟩
 refine stc (V := .agg gD.toArray) rfl rfl (fun ek => ?_) ?_
 have el := ek
 try simp only [zf] at el
 exact zg (k := 10) qT mT rfl rfl (CellsAt.all (y.b0)) ⟨rfl, rfl⟩
 refine stc (V := .agg (e.cells de0).toArray) rfl rfl (fun em => ?_) ?_
 have en := em
 try simp only [zf] at en
 exact zg (k := 10) qT mT rfl rfl (CellsAt.all (y.b3)) ⟨rfl, rfl⟩
 refine KG (V := .bool ((yA (((d.types.getD e.typ.toNat default).fields).getD e.field.toNat default) ((L.getD k default).ev) e))) (fun _ A => Sep G W ((Blk M gD.toArray 59) :: gI :: gG :: gE :: Rs) A) y rfl rfl (fun ac => ?_) (fun w1442 bg => ?_)
 have eo := ac
 try simp only [zf] at eo
 have bh : e.typ.toNat < d.types.length := bo
 obtain ⟨cv, Q, hoke1433⟩ := u.typD bh
 have hsm1435 : ((d.types.getD e.typ.toNat default).fields).length * 48 ≤ 140737488355328 := Q.small
 have hcw1436 := y.cells cv (u.foot (ne_of_lt bh))
 have bi : e.field.toNat < ((d.types.getD e.typ.toNat default).fields).length := bo
 obtain ⟨cw, ag, bt⟩ := Q.fldD bi
 have hsm1438 : ((((d.types.getD e.typ.toNat default).fields).getD e.field.toNat default).moves).length * 32 ≤ 140737488355328 := ag.small
 have hcw1439 := y.cells cw (Q.foot (ne_of_lt bi))
 refine (zV (f := 90) (vals := [.agg ci.toArray, .agg gD.toArray, .agg (e.cells de0).toArray]) (cap := []) rfl (yH ⟨(if_pos ac), (if_pos ac), (if_pos ac), trivial⟩) Tryd.call90 (VI (f := (((d.types.getD e.typ.toNat default).fields).getD e.field.toNat default)) (x := ((L.getD k default).ev)) (e := e) ag bt P U.ev hde0 oe y) ?_)
 rintro _ w1440 ⟨rfl, er⟩
 exact ⟨rfl, er⟩
 refine st (zo (b := (((!((L.getD k default).void)) && (decide ((((L.getD k default).ev).typ) = e.typ))) && (decide ((((L.getD k default).ev).agg) = e.agg))) && (decide ((((L.getD k default).ev).field) = e.field))) (b' := (yA (((d.types.getD e.typ.toNat default).fields).getD e.field.toNat default) ((L.getD k default).ev) e)) rfl (fun hbp => (if_pos hbp)) (zb ?_))
 cases ad : ((((!((L.getD k default).void)) && (decide ((((L.getD k default).ev).typ) = e.typ))) && (decide ((((L.getD k default).ev).agg) = e.agg))) && (decide ((((L.getD k default).ev).field) = e.field))) && (yA (((d.types.getD e.typ.toNat default).fields).getD e.field.toNat default) ((L.getD k default).ev) e)
 have ae := ad
 try simp only [zf] at ad
 refine zi rfl (zk (R0 fun _ => st (mV (Iw k) ?_)))
 have es : InR ((k + 1 : Nat) : Int) := bo
 refine st (zH (r := ((k + 1 : Nat) : Int)) (k := .i64) (a := ((k : Nat) : Int)) (b := 1) rfl rfl (by rw [show (((k : Nat) : Int) + 1 : Int) = ((k + 1 : Nat) : Int) from bo]; exact zz es) (st (aS (Iw (k + 1)) (zb ?_))))
 exact ⟨_, by omega, k + 1, _, rfl, sSf, by omega, (xb hno (rj_raw.trans ae)), (bg.s4_bcd)⟩
 have ae := ad
 try simp only [zf] at ad
 have hT := Ja hfz om hno (rj_raw.trans ae)
 refine zj rfl (za ?_)
 refine WD4 ((fun TT C gi => WF [fun vals A => Sep G W (C :: gi :: gG :: TT) A, fun vals A => Sep G W (C :: gi :: (Blk B #[Iv (((L.getD k default).ev).origin), Iv (((L.getD k default).ev).seq)] 57) :: TT) A]) (gE :: Rs) (Blk M gD.toArray 59) gI) (AF [Vl 0 (Ix M 0), Vl 1 (.agg #[Iv (((L.getD k default).ev).origin), Iv (((L.getD k default).ev).seq)]), Vl 2 (.bool true), fun _ => True]) [[], [0], [], [0, 1, 2]] [3] [(0, 0), (0, 0), (0, 0), (0, 0)] bg ⟨fun _ _ _ _ _ _ _ => obl rfl (yP rfl dR), ob1 0 fun _ _ (et : Sep _ _ _ _) eu => obl rfl (zg (k := 2) (cs := [Iv (((L.getD k default).ev).origin), Iv (((L.getD k default).ev).seq)]) tT oT rfl (eu 0 dc) (CellsAt.sub (CellsAt.all (et.b0)) 0 (cs2 := [Iv (((L.getD k default).ev).origin), Iv (((L.getD k default).ev).seq)]) rfl) dR), fun _ _ _ _ _ _ _ => obl rfl (aS (.bool true) dR), ?_, trivial⟩ ?_
 refine ob1 0 fun _ _ (bj : Sep _ _ _ _) ew => (obl rfl ((zp (v := .agg #[Iv (((L.getD k default).ev).origin), Iv (((L.getD k default).ev).seq)]) (c' := #[Iv (((L.getD k default).ev).origin), Iv (((L.getD k default).ev).seq)]) oT rfl (ew 1 dc) (bj.b2) (zW ⟨rfl, rfl, trivial⟩) yqc rfl ?_)))
 intro w1475 ex
 exact fun E N I => ⟨(bj.pt2 ex), trivial⟩
 intro vals w1498 ey ez
 have bk : Sep _ _ _ _ := ey
 have ge := ez 2 dc
 refine zZ (kv := [(0, Ix b 0), (3, Ix m 0), (4, .bool true), (5, Ix B 0), (6, Ix q 0), (7, Iw k), (41, Iw k), (42, Ix b 0), (43, Ix b 0), (44, Ix b 2), (45, s), (46, Iw L.length), (47, .bool true), (50, Ix b 0), (51, Ix b 0), (52, Ix b 2), (53, s), (54, Iw k), (55, Ix (sb s) (so s + k * 13)), (56, Ix (sb s) (so s + k * 13)), (57, .agg gD.toArray), (8, Ix M 0), (58, Ix b 0), (59, Ix b 0), (60, Ix b 2), (61, s), (62, Iw k), (63, Ix (sb s) (so s + k * 13)), (64, Ix (sb s) (so s + k * 13 + 10)), (65, .bool ((L.getD k default).void)), (66, .bool (!((L.getD k default).void))), (67, .bool (!((L.getD k default).void))), (73, .bool ((!((L.getD k default).void)) && (decide ((((L.getD k default).ev).typ) = e.typ)))), (74, .bool ((!((L.getD k default).void)) && (decide ((((L.getD k default).ev).typ) = e.typ)))), (80, .bool (((!((L.getD k default).void)) && (decide ((((L.getD k default).ev).typ) = e.typ))) && (decide ((((L.getD k default).ev).agg) = e.agg)))), (81, .bool (((!((L.getD k default).void)) && (decide ((((L.getD k default).ev).typ) = e.typ))) && (decide ((((L.getD k default).ev).agg) = e.agg)))), (87, .bool ((((!((L.getD k default).void)) && (decide ((((L.getD k default).ev).typ) = e.typ))) && (decide ((((L.getD k default).ev).agg) = e.agg))) && (decide ((((L.getD k default).ev).field) = e.field)))), (88, .bool ((((!((L.getD k default).void)) && (decide ((((L.getD k default).ev).typ) = e.typ))) && (decide ((((L.getD k default).ev).agg) = e.agg))) && (decide ((((L.getD k default).ev).field) = e.field)))), (93, .bool true)]) ⟨rfl, rfl, (by exact ge), rfl, rfl, rfl, rfl, rfl, rfl, rfl, rfl, rfl, rfl, rfl, rfl, rfl, rfl, rfl, rfl, rfl, rfl, rfl, rfl, rfl, rfl, rfl, rfl, rfl, rfl, rfl, rfl, rfl, rfl, rfl, rfl, rfl, rfl, rfl, rfl, trivial⟩ (fun ρw1498 => ?_)
 refine zb (zm (ZF (b := B) lY tT oT rfl rfl (CellsAt.all (bk.b2)) (show _ = (.bool true : Value) from rfl) ?_))
 rw [hT]
 refine ⟨rfl, ?_, (bk.s4_)⟩
 exact ⟨U.ev.origin, U.ev.seq⟩
 have F := zM F
 have hT : zJ d L e = (true, 0, 0) := Yc F
 refine zj rfl (za (yD (by kernel_rfl) (fun _ => (st (zQ (parts' := []) (v := .agg #[Iv 0, Iv 0]) rfl yqf (st (aS (.bool true) (stn (zp (v := .agg #[Iv 0, Iv 0]) (c' := #[Iv 0, Iv 0]) oT rfl rfl (aD.b0) (zW ⟨rfl, rfl, trivial⟩) yqc rfl ?_)))))))))
 intro w1504 eA
 have bl := aD.pt0 eA
 refine zb (zm (ZF (b := B) lY tT oT rfl rfl (CellsAt.all (bl.b0)) (show _ = (.bool true : Value) from rfl) ?_))
 rw [hT]
 refine ⟨rfl, ?_, (bl.s2_)⟩
 exact ⟨(by decide : InR 0), (by decide : InR 0)⟩

set_option maxHeartbeats 8000000 in
theorem Qq {G : Nat → Prop} {W w : World} {Rs : List HP} {b : Nat} {d : Dcl} {L : List Ent} {e : Ev} {de0 : Value} (hde0 : RdS W G de0 e.deps) (oe : e.Ok) (hS0 : Sep G W ((RefV b d L) :: Rs) w) (hd : DclOk d) (hrl : Ran d L) (hml : L.length ≤ 1000000) : Ret Tryd.prog 29 [.pointer (some ⟨b, 0, none⟩), .agg (e.cells de0).toArray] w (fun r w' => ∃ (v : Value), r = (.agg ((ya d L e).cells v).toArray : Value) ∧ ((ya d L e).Ok) ∧ Sep G W ((RefV b d (L ++ [ya d L e])) :: (RowE (α := Int) own 3 v e.deps) :: Rs) w') := by
 have hde0s : _ * 8 ≤ _ := hde0.small
 refine zl (args := [Ix b 0, .agg (e.cells de0).toArray]) Tryd.func29 rfl rfl ?_
 refine za (R0 fun _ => st (zR (v := .agg (e.cells de0).toArray) rfl ?_))
 intro w3 b2 cm
 let cr := Blk b2 (e.cells de0).toArray 59
 refine st (zr vT ?_)
 intro w7 P cn
 let bo := Blk P #[Iv 0, Iv 0, Iv 0, (Iz), Iv 0, Iv 0, Iv 0, Iv 0, Iv 0, Iv 0, .bool false, Iv 0, Iv 0] 62
 have bI := (hS0.new cm).new cn
 refine zb (za (R0 fun _ => st (mV (Ix b 0) (st (zg (k := 10) qT mT rfl rfl (CellsAt.all (bI.b1)) ?_)))))
 obtain ⟨G10, ay, bK, bL, bM⟩ := (bI.mv2).lend
 obtain ⟨vt16, vp17, ve18, hb19, bN, bO, bP⟩ := RefV.sh ay
 have hsm23 : d.types.length * 24 ≤ 140737488355328 := bN.small
 have hsm24 : d.projs.length * 40 ≤ 140737488355328 := bO.small
 have hsm25 : L.length * 120 ≤ 140737488355328 := bP.small
 refine st (cL Tryd.call61 (UF (e := e) ay (RdS.base hde0 bK) oe bL (hd) (hrl) (hml)) ?_)
 rintro _ w27 ⟨rfl, ad, bQ⟩
 have bR := bM _ _ bQ
 refine st (mV (.tuple #[.bool ((zJ d L e).1), .agg #[Iv ((zJ d L e).2.1), Iv ((zJ d L e).2.2)]]) (st (zt (vs := [.bool ((zJ d L e).1), .agg #[Iv ((zJ d L e).2.1), Iv ((zJ d L e).2.2)]]) (i := 0) (v := .bool ((zJ d L e).1)) rfl rfl (st (zt (vs := [.bool ((zJ d L e).1), .agg #[Iv ((zJ d L e).2.1), Iv ((zJ d L e).2.2)]]) (i := 1) (v := .agg #[Iv ((zJ d L e).2.1), Iv ((zJ d L e).2.2)]) rfl rfl (st (zr pA ?_)))))))
 intro w32 K bS
 let cp := Blk K #[Iv ((zJ d L e).2.1), Iv ((zJ d L e).2.2)] 57
 have az := bR.new bS
 refine st (aS (.bool ((zJ d L e).1)) (stn (zp (v := .agg #[Iv ((zJ d L e).2.1), Iv ((zJ d L e).2.2)]) (c' := #[Iv ((zJ d L e).2.1), Iv ((zJ d L e).2.2)]) oT rfl rfl (az.b0) (zW ⟨rfl, rfl, trivial⟩) yqc rfl ?_)))
 intro co bT
 refine zb (za ?_)
 have hek : Ent.Ok (ya d L e) := ⟨oe, ad.1, ad.2⟩
 obtain ⟨t, u, z, bU⟩ := RefV.open ((az.pt0 bT).mv1)
 have H : Sep G W ((Blk b #[t, u, z] 113) :: (RowE (α := Typ) own 33 t d.types) :: (RowE (α := Prj) own 107 u d.projs) :: (RowE (α := Ent) own 62 z L) :: cp :: bo :: cr :: Rs) co := bU
 have bV := H.r1
 have hr42s : _ * 24 ≤ _ := bV.2
 have bW := H.r2
 have hr43s : _ * 40 ≤ _ := bW.2
 have bX := H.r3
 have hr44s : _ * 120 ≤ _ := bX.2
 refine WD6 ((fun TT y => WF [fun vals x => Sep G W (y :: TT) x, fun vals x => ∃ (a : Value), (vals 1 = (.agg (e.cells a).toArray : Value)) ∧ Sep G W ((RowE (α := Int) own 3 a e.deps) :: y :: TT) x, fun vals x => ∃ (j : Nat), (vals 5 = (Ix j 0 : Value)) ∧ Sep G W ((Blk j #[Iv 0, Iv 0, Iv 0, (Iz), Iv 0, Iv 0, Iv 0, Iv 0, Iv 0, Iv 0, .bool false, Iv 0, Iv 0] 62) :: y :: TT) x, fun vals x => ∃ (a : Value) (j : Nat), (vals 1 = (.agg (e.cells a).toArray : Value)) ∧ (vals 5 = (Ix j 0 : Value)) ∧ Sep G W ((Blk j #[Iv 0, Iv 0, Iv 0, (Iz), Iv 0, Iv 0, Iv 0, Iv 0, Iv 0, Iv 0, .bool false, Iv 0, Iv 0] 62) :: (RowE (α := Int) own 3 a e.deps) :: y :: TT) x, fun _ _ => True, fun _ _ => True, fun _ _ => True, fun vals x => ∃ (a : Value) (j : Nat), (vals 1 = (.agg (e.cells a).toArray : Value)) ∧ (vals 5 = (Ix j 0 : Value)) ∧ Sep G W ((Blk j ((ya d L e).cells a).toArray 62) :: (RowE (α := Int) own 3 a e.deps) :: y :: TT) x]) ((RowE (α := Typ) own 33 t d.types) :: (RowE (α := Prj) own 107 u d.projs) :: (RowE (α := Ent) own 62 z L) :: cp :: bo :: cr :: Rs) (Blk b #[t, u, z] 113)) (AF [Vl 0 (.agg (e.cells de0).toArray), fun _ => True, Vl 2 (.bool ((zJ d L e).1)), Vl 3 (.agg #[Iv ((zJ d L e).2.1), Iv ((zJ d L e).2.2)]), fun vals => ∀ (a : Value), vals 1 = (.agg (e.cells a).toArray : Value) → vals 4 = (.agg ((ya d L e).cells a).toArray : Value), fun _ => True, fun _ => True]) [[], [0], [], [], (rg 4), [], (rg 6)] [1, 5, 6] [[0, 2], [0, 2], (rg 4), (rg 4), [1, 3], [0, 1], [3]] H ⟨?_, ?_, fun _ _ _ _ _ _ => obl rfl (mV (.bool ((zJ d L e).1)) dR), ?_, ?_, ?_, ?_, trivial⟩ ?_ (hlocA := yT ⟨dA, dT, dA, dA, fun vals l q h => fun a C => (q 4 (.inl rfl)).trans (h a ((q 1 (.inr dc)).symm.trans C)), dT, dT, trivial⟩)
 intro bY vals w110 aB ae hA111
 have X : bY ∈ [0, 2] := aB
 simp only [List.mem_cons, List.not_mem_nil, or_false] at X
 rcases X with rfl | rfl
 have aC : Sep _ _ _ _ := ae
 exact obl rfl (zg (k := 10) qT mT rfl rfl (CellsAt.all (aC.b6)) dR)
 obtain ⟨j, A, aD⟩ := ae
 exact obl rfl (zg (k := 10) qT mT rfl rfl (CellsAt.all (aD.b7)) dR)
 intro bZ vals w117 aE af ag
 have Y : bZ ∈ [0, 2] := aE
 simp only [List.mem_cons, List.not_mem_nil, or_false] at Y
 rcases Y with rfl | rfl
 have aF : Sep _ _ _ _ := af
 refine obl rfl ((zV (f := 27) (vals := [.agg (e.cells de0).toArray]) (cap := []) rfl (yH ⟨(ag 0 dc), trivial⟩) uR (xK (e := e) hde0 oe aF) ?_))
 rintro _ w124 ⟨a, rfl, ah⟩
 have aG := ah.r0
 have hr126s : _ * 8 ≤ _ := aG.2
 exact fun l q m => ⟨(Exists.intro a (And.intro q ah)), trivial⟩
 obtain ⟨j, A, aH⟩ := af
 refine obl rfl ((zV (f := 27) (vals := [.agg (e.cells de0).toArray]) (cap := []) rfl (yH ⟨(ag 0 dc), trivial⟩) uR (xK (e := e) hde0 oe aH) ?_))
 rintro _ w130 ⟨a, rfl, ai⟩
 have aI := ai.r0
 have hr132s : _ * 8 ≤ _ := aI.2
 exact fun l q m => ⟨(Exists.intro a (Exists.intro j (And.intro q (And.intro ((m 5 dc).trans A) (ai.mv1))))), trivial⟩
 intro ca vals w140 aJ I hA141
 have Z : ca ∈ [0, 1, 2, 3] := aJ
 simp only [List.mem_cons, List.not_mem_nil, or_false] at Z
 rcases Z with rfl | rfl | rfl | rfl
 have aK : Sep _ _ _ _ := I
 exact obl rfl (zg (k := 2) tT oT rfl rfl (CellsAt.all (aK.b4)) dR)
 obtain ⟨a, s, aL⟩ := I
 exact obl rfl (zg (k := 2) tT oT rfl rfl (CellsAt.all (aL.b5)) dR)
 obtain ⟨j, A, aM⟩ := I
 exact obl rfl (zg (k := 2) tT oT rfl rfl (CellsAt.all (aM.b5)) dR)
 obtain ⟨a, j, s, A, aN⟩ := I
 exact obl rfl (zg (k := 2) tT oT rfl rfl (CellsAt.all (aN.b6)) dR)
 intro cb vals w149 aO aj J
 have aa : cb ∈ [1, 3] := aO
 simp only [List.mem_cons, List.not_mem_nil, or_false] at aa
 rcases aa with rfl | rfl
 obtain ⟨a, s, hS153⟩ := aj
 refine obl rfl (zQ (parts' := [(0, .agg (e.cells a).toArray), (1, .bool ((zJ d L e).1)), (2, .agg #[Iv ((zJ d L e).2.1), Iv ((zJ d L e).2.2)])]) (v := .agg ((ya d L e).cells a).toArray) (xF ⟨rfl, s, rfl, (J 2 (by decide)), rfl, (J 3 (by decide)), trivial⟩) yqg (fun l q m => ⟨rfl, ?_⟩))
 intro cc C
 rw [m 1 (by decide)] at C; cases s.symm.trans C
 exact q
 obtain ⟨a, j, s, A, hS156⟩ := aj
 refine obl rfl (zQ (parts' := [(0, .agg (e.cells a).toArray), (1, .bool ((zJ d L e).1)), (2, .agg #[Iv ((zJ d L e).2.1), Iv ((zJ d L e).2.2)])]) (v := .agg ((ya d L e).cells a).toArray) (xF ⟨rfl, s, rfl, (J 2 (by decide)), rfl, (J 3 (by decide)), trivial⟩) yqg (fun l q m => ⟨rfl, ?_⟩))
 intro cc C
 rw [m 1 (by decide)] at C; cases s.symm.trans C
 exact q
 intro cd vals w160 aP ak hA161
 have ab : cd ∈ [0, 1] := aP
 simp only [List.mem_cons, List.not_mem_nil, or_false] at ab
 rcases ab with rfl | rfl
 have aQ : Sep _ _ _ _ := ak
 refine obl rfl ((zr vT ?_))
 intro w167 j aR
 exact fun l q m => ⟨(Exists.intro j (And.intro q (aQ.new aR))), trivial⟩
 obtain ⟨a, s, aT⟩ := ak
 refine obl rfl ((zr vT ?_))
 intro w172 j aU
 exact fun l q m => ⟨(Exists.intro a (Exists.intro j (And.intro ((m 1 dc).trans s) (And.intro q (aT.new aU))))), trivial⟩
 intro ce vals w175 aV aW aX
 have ac : ce ∈ [3] := aV
 simp only [List.mem_cons, List.not_mem_nil, or_false] at ac
 subst ac
 obtain ⟨a, j, s, A, Q⟩ := aW
 refine obl rfl ?_
 have cf : vals 4 = (.agg ((ya d L e).cells a).toArray : Value) := aX 4 dc a s
 have al := Q.r1
 have hr183s : _ * 8 ≤ _ := al.2
 refine (zp (v := .agg ((ya d L e).cells a).toArray) (c' := ((ya d L e).cells a).toArray) nT A cf (Q.b0) (zW ⟨rfl, rfl, rfl, al.1.one, rfl, rfl, rfl, rfl, rfl, rfl, rfl, rfl, rfl, trivial⟩) yqc rfl ?_)
 intro w181 aY
 exact fun l q m => ⟨(Exists.intro a (Exists.intro j (And.intro ((m 1 dc).trans s) (And.intro ((m 5 dc).trans A) (Q.pt0 aY))))), trivial⟩
 intro vals w185 aZ hA187
 obtain ⟨a, j, s, A, ba⟩ := aZ
 let cq := (ya d L e).cells a
 refine zZ (kv := [(0, Ix b 0), (1, .agg (e.cells de0).toArray), (3, Ix b2 0), (4, Ix P 0), (9, Ix b 0), (10, .agg (e.cells de0).toArray), (11, .tuple #[.bool ((zJ d L e).1), .agg #[Iv ((zJ d L e).2.1), Iv ((zJ d L e).2.2)]]), (8, .tuple #[.bool ((zJ d L e).1), .agg #[Iv ((zJ d L e).2.1), Iv ((zJ d L e).2.2)]]), (12, .bool ((zJ d L e).1)), (13, .agg #[Iv ((zJ d L e).2.1), Iv ((zJ d L e).2.2)]), (6, Ix K 0), (5, .bool ((zJ d L e).1)), (7, Ix j 0)]) ⟨rfl, rfl, rfl, rfl, rfl, rfl, rfl, rfl, rfl, rfl, rfl, rfl, (by exact A), trivial⟩ (fun ρw185 => (zb (za ?_)))
 refine WD4 ((fun TT y N M E F O => WF [fun vals x => Sep G W (y :: N :: M :: E :: F :: O :: TT) x, fun vals x => ∃ (p : Nat), (vals 6 = ((Iy p 1 1) : Value)) ∧ Sep G W ((Blk p cq.toArray 62) :: y :: N :: M :: E :: F :: O :: TT) x, fun vals x => ∃ (p : Nat) (n : Value), (vals 6 = ((Iy p 1 1) : Value)) ∧ (vals 7 = (n : Value)) ∧ Sep G W ((RowE (α := Ent) own 62 n (L ++ [(ya d L e)])) :: y :: M :: E :: F :: TT) x, fun vals x => ∃ (p : Nat) (n : Value), (vals 6 = ((Iy p 1 1) : Value)) ∧ (vals 7 = (n : Value)) ∧ Sep G W ((RowE (α := Ent) own 62 n (L ++ [(ya d L e)])) :: y :: (Blk b #[t, u, n] 113) :: E :: F :: TT) x]) (cp :: bo :: cr :: Rs) (Blk j cq.toArray 62) (RowE (α := Int) own 3 a e.deps) (Blk b #[t, u, z] 113) (RowE (α := Typ) own 33 t d.types) (RowE (α := Prj) own 107 u d.projs) (RowE (α := Ent) own 62 z L)) (AF [Vl 0 (Ix b 0), Vl 1 (Ix b 0), Vl 2 (Ix b 0), Vl 3 (Ix b 2), Vl 4 (z), Vl 5 (.agg cq.toArray), fun _ => True, fun _ => True, Vl 8 (Ix b 0), Vl 9 (Ix b 2), fun _ => True]) [[], [], [1], [1, 2], [1, 2, 3], [], [5], [1, 2, 3, 4, 5, 6], (rg 8), (rg 9), (rg 10)] [6, 7, 10] [(0, 2), (0, 1), (0, 1), (0, 1), (0, 1), (0, 0), (0, 0), (1, 1), (2, 2), (2, 2), (2, 2)] ba ⟨fun _ _ _ _ _ _ _ => obl rfl (mV (Ix b 0) dR), fun _ _ _ _ _ _ _ => obl rfl (mV (Ix b 0) dR), fun _ _ _ _ _ _ bb => obl rfl (zE (b := b) (o := 0) (bb 1 dc) dR), fun _ _ _ _ _ _ bc => obl rfl (xR (bc 2 dc) dR), ?_, ob1 0 fun _ _ (bd : Sep _ _ _ _) _ => obl rfl (zg (k := 13) rR nT rfl rfl (CellsAt.all (bd.b0)) dR), ?_, ?_, fun _ _ _ _ _ _ be => obl rfl (zE (b := b) (o := 0) (be 0 dc) dR), fun _ _ _ _ _ _ bf => obl rfl (xR (bf 8 dc) dR), ?_, trivial⟩ ?_
 refine fun R _ _ cg ch am an => ?_
 have hkk : R = 0 ∨ R = 1 := by have h1 : 0 ≤ R := cg; have h2 : R ≤ 1 := ch; omega
 rcases hkk with rfl | rfl
 have bg : Sep _ _ _ _ := am
 exact obl rfl (lD z lR (an 3 dc) (zd (bg.b2) rfl) dR)
 obtain ⟨p, D, bh⟩ := am
 exact obl rfl (lD z lR (an 3 dc) (zd (bh.b3) rfl) dR)
 refine ob1 0 fun _ _ (bi : Sep _ _ _ _) bj => (obl rfl ((zu (k := 13) (parts' := [(0, .agg cq.toArray)]) (c := cq.toArray) rT nT vT dc (xF ⟨rfl, (bj 5 dc), trivial⟩) kr ?_)))
 intro w240 p bk
 exact fun l q m => ⟨(Exists.intro p (And.intro q (bi.new bk))), trivial⟩
 refine ob1 1 fun _ _ bl bm => ?_
 obtain ⟨p, D, ao⟩ := bl
 refine obl rfl ?_
 have aA := ao.b0
 refine (yj (src := own) (bytes := 120) (x1 := (ya d L e)) (ao.s10_gcbdefhij) Qc (bm 4 (by decide)) D aA (fun _ _ hN => ⟨_, rfl, RowE.soft hN, hek⟩) yqb rfl ?_)
 intro n w251 ap
 have bn := ap.r0
 have hr256s : _ * 120 ≤ _ := bn.2
 exact fun l q m => ⟨(Exists.intro p (Exists.intro n (And.intro ((m 6 dc).trans D) (And.intro q ap)))), trivial⟩
 refine ob1 2 fun _ _ bp bq => ?_
 obtain ⟨p, n, D, S, T⟩ := bp
 refine obl rfl ?_
 have aq := T.r0
 have hr282s : _ * 120 ≤ _ := aq.2
 refine (yp (v := n) (c := [t, u, z]) (c' := [t, u, n]) Tryd.sizeOf66 (bq 9 dc) S (T.b2) aq.1.one rfl rfl ?_)
 intro w280 br
 exact fun l q m => ⟨(Exists.intro p (Exists.intro n (And.intro ((m 6 dc).trans D) (And.intro ((m 7 dc).trans S) (T.pt2 br))))), trivial⟩
 intro vals w341 bs hA343
 obtain ⟨p, n, D, S, bt⟩ := bs
 refine zZ (kv := [(0, Ix b 0), (1, .agg (e.cells de0).toArray), (3, Ix b2 0), (4, Ix P 0), (9, Ix b 0), (10, .agg (e.cells de0).toArray), (11, .tuple #[.bool ((zJ d L e).1), .agg #[Iv ((zJ d L e).2.1), Iv ((zJ d L e).2.2)]]), (8, .tuple #[.bool ((zJ d L e).1), .agg #[Iv ((zJ d L e).2.1), Iv ((zJ d L e).2.2)]]), (12, .bool ((zJ d L e).1)), (13, .agg #[Iv ((zJ d L e).2.1), Iv ((zJ d L e).2.2)]), (6, Ix K 0), (5, .bool ((zJ d L e).1)), (7, Ix j 0)]) sEv (fun ρw341 => (zb (za ?_)))
 refine WD4 ((fun TT y N M E F O bJ => WF [fun vals x => Sep G W (y :: N :: M :: E :: F :: O :: bJ :: TT) x, fun vals x => ∃ (g : Value), (vals 1 = (.agg (e.cells g).toArray : Value)) ∧ Sep G W ((RowE (α := Int) own 3 g e.deps) :: y :: N :: M :: E :: F :: O :: bJ :: TT) x, fun vals x => ∃ (g : Value), (vals 1 = (.agg (e.cells g).toArray : Value)) ∧ Sep G W ((RowE (α := Int) own 3 g e.deps) :: y :: N :: M :: E :: F :: O :: (Blk P ((ya d L e).cells g).toArray 62) :: TT) x]) (cr :: Rs) (RowE (α := Ent) own 62 n (L ++ [(ya d L e)])) (Blk j cq.toArray 62) (Blk b #[t, u, n] 113) (RowE (α := Typ) own 33 t d.types) (RowE (α := Prj) own 107 u d.projs) cp bo) (AF [Vl 0 (.agg (e.cells de0).toArray), fun _ => True, Vl 2 (.bool ((zJ d L e).1)), Vl 3 (.agg #[Iv ((zJ d L e).2.1), Iv ((zJ d L e).2.2)]), fun vals => ∀ (g : Value), vals 1 = (.agg (e.cells g).toArray : Value) → vals 4 = (.agg ((ya d L e).cells g).toArray : Value), fun _ => True]) [[], [0], [], [], (rg 4), (rg 5)] [1, 5] [(0, 0), (0, 0), (0, 1), (0, 1), (1, 1), (1, 1)] bt ⟨ob1 0 fun _ _ (bu : Sep _ _ _ _) _ => obl rfl (zg (k := 10) qT mT rfl rfl (CellsAt.all (bu.b7)) dR), ?_, fun _ _ _ _ _ _ _ => obl rfl (mV (.bool ((zJ d L e).1)) dR), ?_, ?_, ?_, trivial⟩ ?_ (hlocA := yT ⟨dA, dT, dA, dA, fun vals l q h => fun g C => (q 4 (.inl rfl)).trans (h g ((q 1 (.inr dc)).symm.trans C)), dT, trivial⟩)
 refine ob1 0 fun vals _ (bv : Sep _ _ _ _) bw => (obl rfl ((zV (f := 27) (vals := [.agg (e.cells de0).toArray]) (cap := []) rfl (yH ⟨(bw 0 dc), trivial⟩) uR (xK (e := e) hde0 oe bv) ?_)))
 rintro _ w361 ⟨g, rfl, ar⟩
 have bx := ar.r0
 have hr363s : _ * 8 ≤ _ := bx.2
 exact fun l q m => ⟨(Exists.intro g (And.intro q ar)), trivial⟩
 refine fun U _ _ ci cj au _ => ?_
 have hkk : U = 0 ∨ U = 1 := by have h1 : 0 ≤ U := ci; have h2 : U ≤ 1 := cj; omega
 rcases hkk with rfl | rfl
 have bz : Sep _ _ _ _ := au
 exact obl rfl (zg (k := 2) tT oT rfl rfl (CellsAt.all (bz.b5)) dR)
 obtain ⟨g, B, bA⟩ := au
 exact obl rfl (zg (k := 2) tT oT rfl rfl (CellsAt.all (bA.b6)) dR)
 refine ob1 1 fun _ _ bB av => ?_
 obtain ⟨g, B, hS426⟩ := bB
 refine obl rfl (zQ (parts' := [(0, .agg (e.cells g).toArray), (1, .bool ((zJ d L e).1)), (2, .agg #[Iv ((zJ d L e).2.1), Iv ((zJ d L e).2.2)])]) (v := .agg ((ya d L e).cells g).toArray) (xF ⟨rfl, B, rfl, (av 2 (by decide)), rfl, (av 3 (by decide)), trivial⟩) yqg (fun l q m => ⟨rfl, ?_⟩))
 intro v360q C
 rw [m 1 (by decide)] at C; cases B.symm.trans C
 exact q
 refine ob1 1 fun vals _ bC bD => ?_
 obtain ⟨g, B, V⟩ := bC
 have ck : vals 4 = (.agg ((ya d L e).cells g).toArray : Value) := bD 4 dc g B
 refine obl rfl ?_
 have aw := V.r0
 have hr397s : _ * 8 ≤ _ := aw.2
 refine (zp (v := .agg ((ya d L e).cells g).toArray) (c' := ((ya d L e).cells g).toArray) nT rfl ck (V.b7) (zW ⟨rfl, rfl, rfl, aw.1.one, rfl, rfl, rfl, rfl, rfl, rfl, rfl, rfl, rfl, trivial⟩) yqc rfl ?_)
 intro w395 bE
 exact fun l q m => ⟨(Exists.intro g (And.intro ((m 1 dc).trans B) (V.pt7 bE))), trivial⟩
 intro vals cl bF hA431
 obtain ⟨g, B, ax⟩ := bF
 refine zZ (kv := [(0, Ix b 0), (1, .agg (e.cells de0).toArray), (3, Ix b2 0), (4, Ix P 0), (9, Ix b 0), (10, .agg (e.cells de0).toArray), (11, .tuple #[.bool ((zJ d L e).1), .agg #[Iv ((zJ d L e).2.1), Iv ((zJ d L e).2.2)]]), (8, .tuple #[.bool ((zJ d L e).1), .agg #[Iv ((zJ d L e).2.1), Iv ((zJ d L e).2.2)]]), (12, .bool ((zJ d L e).1)), (13, .agg #[Iv ((zJ d L e).2.1), Iv ((zJ d L e).2.2)]), (6, Ix K 0), (5, .bool ((zJ d L e).1)), (7, Ix j 0)]) sEv (fun ρw429 => (zb (zm (XK (b := P) Tryd.results29 rR nT rfl rfl (CellsAt.all (ax.b7)) ?_))))
 have bG : Sep _ _ ((RefV b d (L ++ [ya d L e])) :: _) _ := RefV.close (d := d) (L := (L ++ [ya d L e])) (ax.s9_defbacghi)
 have bH : Sep G W ((RefV b d (L ++ [ya d L e])) :: (RowE (α := Int) own 3 g e.deps) :: Rs) cl := bG.sel 6 [0, 1] (Nat.le_add_left _ _) rfl rfl
 refine ⟨g, rfl, hek, bH⟩

set_option maxHeartbeats 8000000 in
theorem VM {G : Nat → Prop} {W w : World} {Rs : List HP} {d : Dcl} {dd0 : Value} (hdd0 : RdS W G dd0 d.types) {dd1 : Value} (hdd1 : RdS W G dd1 d.projs) (od : d.Ok) {n : Int} (hn : InR n) {vl : Value} {l : List Ev} (hl : RdS W G vl l) (hKN : RdS W G (.slice (some ⟨0, 0, none⟩) 6 6) kindsL) (hS0 : Sep G W Rs w) : Ret Tryd.prog 4 [.agg (d.cells dd0 dd1).toArray, .int .i64 (n), vl] w (fun r w' => r = (.bool true : Value) ∧ Sep G W Rs w') := by
 have hdd0s : _ * 24 ≤ _ := hdd0.small
 have hdd1s : _ * 40 ≤ _ := hdd1.small
 have hls : _ * 96 ≤ _ := hl.small
 have hKNs : _ * 8 ≤ _ := hKN.small
 refine zl (args := [.agg (d.cells dd0 dd1).toArray, Iv n, vl]) Tryd.func4 rfl rfl ?_
 refine za (R0 fun _ => st (zR (v := .agg (d.cells dd0 dd1).toArray) rfl ?_))
 intro w3 b2 iV
 let je := Blk b2 (d.cells dd0 dd1).toArray 25
 have hM := hS0.new iV
 refine st (aS (.bool false) (zb (za (za (R0 fun _ => st (zg (k := 2) mR wT rfl rfl (CellsAt.all (hM.b0)) (st (cL Tryd.call20 (YV (d := d) hdd0 hdd1 od hM) ?_))))))))
 rintro _ w7 ⟨b5, rfl, iX, hN⟩
 refine st (yc (a := b5) rfl (zb ?_))
 cases cR : !b5
 try simp only [zf] at cR
 have hdo := iX cR
 refine zi rfl (zk (za (R0 fun _ => st (mV (Iv n) ?_))))
 refine st (cL Tryd.call13 (Xj (x := n) (n := 64) hn yqj hN) ?_)
 rintro _ w12 ⟨aD, rfl, hq11, hP⟩
 have cS : InR ((1 + aD : Nat) : Int) := bo
 refine st (zH (r := ((1 + aD : Nat) : Int)) (k := .i64) (a := 1) (b := ((aD : Nat) : Int)) rfl rfl (by rw [show (1 + ((aD : Nat) : Int) : Int) = ((1 + aD : Nat) : Int) from bo]; exact zz cS) (st (mV vl (st (cL Tryd.call22 (Yk (n := ((1 + aD : Nat) : Int)) (l := l) (vl := vl) cS hl hP) ?_)))))
 rintro s Q ⟨_, g, rfl, h6017, hft18, cT⟩
 have hQ := cT.r0
 have hr21s : _ * 96 ≤ _ := hQ.2
 refine st (aS s (zb (za ?_)))
 obtain ⟨V, hR, U, cU, hS⟩ := cT.lend
 have t := RowE.rdB hR U
 have hrd28s : _ * 96 ≤ _ := t.small
 refine R0 fun _ => st (zg (k := 2) mR wT rfl rfl (CellsAt.all (cU.b0)) (st (cL wY (YM (d := d) (RdS.base hdd0 U) (RdS.base hdd1 U) od cU) ?_)))
 rintro _ w31 ⟨ah, ai, rfl, cV⟩
 have cW := cV.r1
 have hr33s : _ * 40 ≤ _ := cW.2
 refine st (zr Tryd.zeroValue25 ?_)
 intro w36 aV hT
 let jf := Blk aV (d.cells ah ai).toArray 25
 have bF := cV.new hT
 refine stn (zp (v := .agg (d.cells ah ai).toArray) (c' := (d.cells ah ai).toArray) wT rfl rfl (bF.b0) (zW ⟨(bF.typSl (i := 1) rfl).one, cW.1.one, trivial⟩) yqc rfl ?_)
 intro w38 hU
 have cX := bF.pt0 hU
 refine zb (za (R0 fun _ => st (zg (k := 2) mR wT rfl rfl (CellsAt.all (cX.b0)) ?_)))
 obtain ⟨G42, hV, hB45, hW, hY⟩ := (cX.mv1).lend
 have bH := RowE.rd (TypW.rowP hV)
 have hrd48s : _ * 24 ≤ _ := bH.small
 obtain ⟨G50, hZ, ia, ib, ic⟩ := (hW.mv1).lend
 have bI := RowE.rd hZ
 have hrd56s : _ * 40 ≤ _ := bI.small
 refine st (cL Tryd.call24 (Ww (d := d) (RdS.base bH ia) bI od ib) ?_)
 rintro _ w58 ⟨L, rfl, id⟩
 have ie := ic _ _ id
 have cY := hY _ _ ie
 refine st (aS (Ix L 0) (zb (za (R0 fun _ => st (zg (k := 2) mR wT rfl rfl (CellsAt.all (cY.b4)) (st (cL Tryd.call25 (VH (d := d) (RdS.base hdd0 U) (RdS.base hdd1 U) od cY) ?_)))))))
 rintro _ w63 ⟨N, rfl, cZ⟩
 refine st (aS (Ix N 0) (zb (za (za (R0 fun _ => st (mV (Ix L 0) (st (xc (b := L) (o := 0) tA rfl (zb (zi rfl (zk (za (R0 fun _ => st (zg (k := 2) mR wT rfl rfl (CellsAt.all (cZ.b4)) (st (cL Tryd.call26 (Vt  (cZ.s6_bcadef)) ?_))))))))))))))))
 rintro _ w66 ⟨rfl, ig⟩
 refine zb (za (za (R0 fun _ => st (aS (Iv 0) (zb (zn (zX (fun mq σ R => ∃ (k : Nat) (ρ : Env), mq = g.length - k ∧ σ = yb ρ [(2, s), (3, Ix b2 0), (6, .bool false), (8, Ix L 0), (9, Ix N 0), (10, Iw k)] ∧ (k ≤ g.length) ∧ Sep V Q ((RefV N d (zY d (g.take k))) :: (ViewO L d (zY d (g.take k)) (zY d (g.take k))) :: (Blk aV (d.cells ah ai).toArray 25) :: (Blk b2 (d.cells dd0 dd1).toArray 25) :: Rs) R) ⟨0, _, rfl, sSf, Nat.zero_le _, ig⟩ ?_)))))))
 rintro m69 σ70 w68 ⟨k, ρl1, rfl, rfl, hkk, aj⟩
 let jd := Ix (sb s) (so s + k * 10)
 let jb := zy Q (sb s) (so s + k * 10 + 3)
 let jc := (g.getD k default).cells jb
 let bG := (((g.getD k default).typ), ((g.getD k default).agg))
 refine za (za (R0 fun _ => st (mV (Iw k) (st (mV s (st (zA (n := g.length) uT rfl t.sl (st (zD (k := .i64) (a := ((k : Nat) : Int)) (b := ((g.length : Nat) : Int)) rfl rfl (zb ?_))))))))))
 cases aK : decide (((k : Nat) : Int) < ((g.length : Nat) : Int))
 have aK := fD aK
 have hkn : k = g.length := by omega
 try simp +zetaDelta only at aj
 rw [hkn, List.take_length] at aj
 obtain ⟨X, hX⟩ : ∃ z, z = zY d g := ⟨_, rfl⟩
 try simp +zetaDelta only at aj
 rw [← hX] at aj
 have iY : X.length = g.length := by rw [hX, yq]
 refine zi rfl (zU (zI (za (R0 fun _ => st (mV (Ix L 0) (st (cL qY (yW  (aj.mv1)) ?_)))))))
 rintro an w75 ⟨_, rfl, da⟩
 have ih := da.r1
 have hr77s : _ * 120 ≤ _ := ih.2
 refine st (aS an (zb (za (R0 fun _ => st (mV an (st (mV (Ix N 0) ?_)))))))
 obtain ⟨G79, db, hB82, ii, ij⟩ := (da.mv2).lend
 obtain ⟨vt85, vp86, ve87, hb88, ik, il, im⟩ := RefV.sh db
 have hsm92 : d.types.length * 24 ≤ 140737488355328 := ik.small
 have hsm93 : d.projs.length * 40 ≤ 140737488355328 := il.small
 have hsm94 : X.length * 120 ≤ 140737488355328 := im.small
 refine st (cL rY (Zl  db ii) ?_)
 rintro hO w96 ⟨_, rfl, dd⟩
 have io := dd.r0
 have hr98s : _ * 120 ≤ _ := io.2
 have ip := ij _ _ dd
 obtain ⟨G101, em, hB104, en, eo⟩ := (ip.mv3).lend
 have aW := RowE.rd em
 have hrd107s : _ * 120 ≤ _ := aW.small
 obtain ⟨G109, er, es, et, eu⟩ := (en.mv1).lend
 have aX := RowE.rd er
 have hrd115s : _ * 120 ≤ _ := aX.small
 refine st (cL mY (xd (a := X) (va := an) (b := X) (vb := hO) (RdS.base aW es) aX et) ?_)
 rintro _ de ⟨rfl, ew⟩
 have ex := eu _ _ ew
 have ey := eo _ _ ex
 have df : (decide (X = X)) = true := (decide_eq_true rfl)
 rw [df]
 refine st (aS (.bool true) (zb (za (za ?_))))
 obtain ⟨iq, ao, ez⟩ := ey.toML
 refine R0 fun _ => st (aS (Iv 0) (zb (zn (zX (fun mq σ R => ∃ (q : Nat) (ρ : Env), mq = X.length - q ∧ σ = yb ρ [(2, s), (3, Ix b2 0), (6, .bool false), (8, Ix L 0), (9, Ix N 0), (18, an), (19, .bool true), (20, Iw q)] ∧ (q ≤ X.length) ∧ Sep V Q ((ML de iq noX) :: (RwN hO X) :: (RefV N d X) :: (ViewO L d X X) :: (Blk aV (d.cells ah ai).toArray 25) :: (Blk b2 (d.cells dd0 dd1).toArray 25) :: Rs) R) ⟨0, _, rfl, sSf, Nat.zero_le _, ez⟩ ?_))))
 rintro m125 σ126 w124 ⟨q, ρl2, rfl, rfl, hkq, aL⟩
 refine za (za (R0 fun _ => st (mV (Iw q) (st (mV an (st (zA (n := X.length) rT rfl ao.sl (st (zD (k := .i64) (a := ((q : Nat) : Int)) (b := ((X.length : Nat) : Int)) rfl rfl (zb ?_))))))))))
 cases ap : decide (((q : Nat) : Int) < ((X.length : Nat) : Int))
 have ap := fD ap
 refine zi rfl (zU (zI (za (R0 fun _ => st (mV (Ix L 0) (st (cL sY (xw (ty := -1) (no := 0) dc dc (aL.mv3)) ?_)))))))
 rintro _ w131 ⟨al, rfl, bJ⟩
 let ja := (ye d ((-1), 0) X).cells al
 have bK := bJ.r1
 have hr133s : _ * 32 ≤ _ := bK.2
 refine st (mV (.tuple #[.agg ja.toArray, .bool ((zh d X ((-1), 0)).isSome)]) (st (zt (vs := [.agg ja.toArray, .bool ((zh d X ((-1), 0)).isSome)]) (i := 0) (v := .agg ja.toArray) rfl rfl (st (zt (vs := [.agg ja.toArray, .bool ((zh d X ((-1), 0)).isSome)]) (i := 1) (v := .bool ((zh d X ((-1), 0)).isSome)) rfl rfl ?_)))))
 have dg : ((zh d X ((-1), 0)).isSome) = false := ((xV (d := d) (Ran.zero ⟨_, hX⟩ om)).2.1)
 rw [dg]
 refine st (zr nR ?_)
 intro w137 b136 eA
 have bL := bJ.new eA
 refine stn (zp (v := .agg ja.toArray) (c' := ja.toArray) pT rfl rfl (bL.b0) (zW ⟨rfl, bK.1.one, trivial⟩) yqc rfl ?_)
 intro w139 eB
 have bM := bL.pt0 eB
 refine st (aS (.bool false) (zb (za (R0 fun _ => st (zg (k := 2) mR wT rfl rfl (CellsAt.all (bM.b7)) (st (mV s (st (cL Tryd.call38 (YH (d := d) (l := g) (vl := s) (RdS.base hdd0 U) (RdS.base hdd1 U) od t (RdS.base hKN U) bM (hdo) (om)) ?_)))))))))
 rintro _ w143 ⟨aM, rfl, eC⟩
 refine st (aS (Ix aM 0) (zb (za (zw kr (st (mV (.bool true) (st (mV (.bool true) (sty rfl rfl (mV (.bool false) (sty rfl rfl (yc (a := false) rfl (st (zN (v := .bool true) rfl rfl (st (mV (.bool true) (sty rfl rfl (mV (Ix aM 0) (sty rfl rfl (UN (b := aM) (o := 0) tA rfl (st (zN (v := .bool true) rfl rfl (st (mV (.bool true) (sty rfl rfl (mV (Ix aM 0) (sty rfl rfl (cL qY (yW  eC) ?_))))))))))))))))))))))))))))
 rintro ir w146 ⟨_, rfl, bN⟩
 have eD := bN.r1
 have hr148s : _ * 120 ≤ _ := eD.2
 refine sty rfl rfl (mV (Ix N 0) ?_)
 obtain ⟨G150, bO, hB153, eE, eF⟩ := (bN.mv7).lend
 obtain ⟨vt156, vp157, ve158, hb159, eG, eH, eI⟩ := RefV.sh bO
 have hsm163 : d.types.length * 24 ≤ 140737488355328 := eG.small
 have hsm164 : d.projs.length * 40 ≤ 140737488355328 := eH.small
 have hsm165 : X.length * 120 ≤ 140737488355328 := eI.small
 refine sty rfl rfl (cL rY (Zl  bO eE) ?_)
 rintro it w167 ⟨_, rfl, bP⟩
 have eJ := bP.r0
 have hr169s : _ * 120 ≤ _ := eJ.2
 have eK := eF _ _ bP
 obtain ⟨G172, eL, hB175, eM, eN⟩ := (eK.mv3).lend
 have aY := RowE.rd eL
 have hrd178s : _ * 120 ≤ _ := aY.small
 obtain ⟨G180, eO, eP, eQ, eR⟩ := (eM.mv1).lend
 have aZ := RowE.rd eO
 have hrd186s : _ * 120 ≤ _ := aZ.small
 refine sty rfl rfl (cL mY (xd (a := (zY d g)) (va := ir) (b := X) (vb := it) (RdS.base aY eP) aZ eQ) ?_)
 rintro _ w187 ⟨rfl, eS⟩
 have eT := eR _ _ eS
 have eU := eN _ _ eT
 have dh : (decide ((zY d g) = X)) = true := (decide_eq_true hX.symm)
 rw [dh]
 refine st (zN (v := .bool true) rfl rfl (st (mV (.bool true) (sty rfl rfl (mV (Ix L 0) (sty rfl rfl (cL qY (yW  (eU.mv5)) ?_)))))))
 rintro iu w194 ⟨_, rfl, bQ⟩
 have eV := bQ.r1
 have hr196s : _ * 120 ≤ _ := eV.2
 refine sty rfl rfl (mV (Ix N 0) ?_)
 obtain ⟨G198, bR, hB201, eW, eX⟩ := (bQ.mv4).lend
 obtain ⟨vt204, vp205, ve206, hb207, eY, eZ, fa⟩ := RefV.sh bR
 have hsm211 : d.types.length * 24 ≤ 140737488355328 := eY.small
 have hsm212 : d.projs.length * 40 ≤ 140737488355328 := eZ.small
 have hsm213 : X.length * 120 ≤ 140737488355328 := fa.small
 refine sty rfl rfl (cL rY (Zl  bR eW) ?_)
 rintro iv w215 ⟨_, rfl, bS⟩
 have fb := bS.r0
 have hr217s : _ * 120 ≤ _ := fb.2
 have fc := eX _ _ bS
 obtain ⟨G220, fd, hB223, fe, ff⟩ := (fc.mv3).lend
 have ba := RowE.rd fd
 have hrd226s : _ * 120 ≤ _ := ba.small
 obtain ⟨G228, fg, fh, fi, fj⟩ := (fe.mv1).lend
 have bb := RowE.rd fg
 have hrd234s : _ * 120 ≤ _ := bb.small
 refine sty rfl rfl (cL mY (xd (a := X) (va := iu) (b := X) (vb := iv) (RdS.base ba fh) bb fi) ?_)
 rintro _ w235 ⟨rfl, fk⟩
 have fl := fj _ _ fk
 have fm := ff _ _ fl
 have di : (decide (X = X)) = true := (decide_eq_true rfl)
 rw [di]
 refine st (zN (v := .bool true) rfl rfl (st (mV (.bool true) (sty rfl rfl (cL uA (xj  (RdS.base hKN U) fm) ?_)))))
 rintro _ iw ⟨rfl, fn⟩
 refine st (zN (v := .bool true) rfl rfl (st (aS (.bool true) (zb (zm (zL vA (show _ = (.bool true : Value) from rfl) ?_))))))
 have fo := hS _ _ fn
 have fp : Sep G W Rs iw := fo.sel 14 [] (Nat.le_add_left _ _) rfl rfl
 refine ⟨rfl, fp⟩
 have ap := tD ap
 refine zj rfl (zk (za (zn (R0 fun _ => st (mV an (st (mV (Iw q) ?_)))))))
 have fq : q < X.length := bo
 refine st (ze (k := 13) (i := q) rT nT rfl ao.sl rfl fq (st (xq rfl (st (xo rfl ?_)))))
 have bT : q < X.length := bo
 obtain ⟨dj, ax, _⟩ := ao.entD bT
 refine st (lD (zy de (sb an) (so an + q * 13 + 3)) wR rfl (aL.mlHead (i := 0) rfl (ao.foot (ne_of_lt bT)) dj (j := 3) rfl (fun h => h) (IsSl.num ax.sl)) (st (cL tY (Za  ax aL) ?_)))
 rintro _ w247 ⟨rfl, fr⟩
 refine zb (R0 fun _ => st (mV (Iw q) ?_))
 have fs : InR ((q + 1 : Nat) : Int) := bo
 refine st (zH (r := ((q + 1 : Nat) : Int)) (k := .i64) (a := ((q : Nat) : Int)) (b := 1) rfl rfl (by rw [show (((q : Nat) : Int) + 1 : Int) = ((q + 1 : Nat) : Int) from bo]; exact zz fs) (st (aS (Iw (q + 1)) (zb ?_))))
 exact ⟨_, by omega, q + 1, _, rfl, sSf, by omega, fr⟩
 have aK := tD aK
 refine zj rfl (zk (za (zn (za (R0 fun _ => st (mV s (st (mV (Iw k) ?_))))))))
 have ft : k < g.length := bo
 refine st (ze (k := 10) (i := k) uT mT rfl t.sl rfl ft ?_)
 have O : k < g.length := bo
 obtain ⟨M, ak, I⟩ := t.evD O
 have hsm253 : ((g.getD k default).deps).length * 8 ≤ 140737488355328 := ak.small
 have dk := aj.cells M (t.foot (ne_of_lt O))
 refine st (zg (k := 10) qT mT rfl rfl dk (st (cL uR (xK (e := (g.getD k default)) ak I aj) ?_)))
 rintro _ w256 ⟨S, rfl, bU⟩
 let iZ := (g.getD k default).cells S
 have bV := bU.r0
 have hr258s : _ * 8 ≤ _ := bV.2
 refine st (zr vR ?_)
 intro w261 am fu
 have bW := bU.new fu
 refine stn (zp (v := .agg iZ.toArray) (c' := iZ.toArray) mT rfl rfl (bW.b0) (zW ⟨rfl, rfl, rfl, bV.1.one, rfl, rfl, rfl, rfl, rfl, rfl, trivial⟩) yqc rfl ?_)
 intro w263 fv
 have bX := bW.pt0 fv
 refine zb (za (R0 fun _ => st (mV (Ix L 0) (st (zg (k := 10) qT mT rfl rfl (CellsAt.all (bX.b0)) ?_)))))
 obtain ⟨G267, fw, fx, fy, fz⟩ := (bX.mv1).lend
 have bc := RowE.rd fw
 have hrd273s : _ * 8 ≤ _ := bc.small
 refine st (cL Tryd.call28 (WT (e := (g.getD k default)) bc I (RdS.base (RdS.base hKN U) fx) (fy.mv2) (hdo) ((Inv.run hdo _)) ((YW om))) ?_)
 rintro _ w276 ⟨P, rfl, bY⟩
 let hv := (ya d (zY d (g.take k)) (g.getD k default)).cells P
 have bZ := bY.r1
 have hr278s : _ * 8 ≤ _ := bZ.2
 have fA := fz _ _ bY
 refine st (zr vT ?_)
 intro w282 Y fB
 have ca := fA.new fB
 refine stn (zp (v := .agg hv.toArray) (c' := hv.toArray) nT rfl rfl (ca.b0) (zW ⟨rfl, rfl, rfl, bZ.1.one, rfl, rfl, rfl, rfl, rfl, rfl, rfl, rfl, rfl, trivial⟩) yqc rfl ?_)
 intro w284 fC
 have cb := ca.pt0 fC
 refine zb (za (R0 fun _ => st (mV (Ix N 0) (st (mV s (st (mV (Iw k) ?_)))))))
 have fE : k < g.length := bo
 refine st (ze (k := 10) (i := k) uT mT rfl t.sl rfl fE ?_)
 have dl := cb.cells M (t.foot (ne_of_lt O))
 refine st (zg (k := 10) qT mT rfl rfl dl (st (cL Tryd.call29 (Qq (e := (g.getD k default)) ak I (cb.mv5) (hdo) (⟨_, rfl⟩) ((YW om))) ?_)))
 rintro _ w293 ⟨T, rfl, bd, cc⟩
 let iW := (ya d (zY d (g.take k)) (g.getD k default)).cells T
 have cd := cc.r1
 have hr295s : _ * 8 ≤ _ := cd.2
 refine st (zr vT ?_)
 intro w298 dm fF
 have ce := cc.new fF
 refine stn (zp (v := .agg iW.toArray) (c' := iW.toArray) nT rfl rfl (ce.b0) (zW ⟨rfl, rfl, rfl, cd.1.one, rfl, rfl, rfl, rfl, rfl, rfl, rfl, rfl, rfl, trivial⟩) yqc rfl ?_)
 intro dp fG
 have cf := ce.pt0 fG
 refine zb (za (R0 fun _ => st (xo rfl (st (lD S wR rfl (zd (cf.b7) rfl) ?_)))))
 obtain ⟨dq, fH, fI⟩ := (cf.mv4).toML
 refine st (cL tY (Za  fH fI) ?_)
 rintro _ dr ⟨rfl, fJ⟩
 refine zb (za (za ?_))
 obtain ⟨G310, fK, hB313, fL, fM⟩ := (fJ.mv6).lend
 have be := RowE.rd fK
 have hrd316s : _ * 8 ≤ _ := be.small
 obtain ⟨ds, fN, fO, cg, fP⟩ := (fL.mv3).lend
 have bf := RowE.rd fN
 have hrd324s : _ * 8 ≤ _ := bf.small
 refine R0 fun _ => st (zg (k := 13) rR nT rfl rfl (CellsAt.all (cg.b3)) (st (zu (k := 13) (parts' := [(0, .agg hv.toArray)]) (c := hv.toArray) rT nT vT dc rfl kr ?_)))
 intro w327 aN fQ
 have ch := cg.new fQ
 refine st (zg (k := 13) rR nT rfl rfl (CellsAt.all (ch.b2)) (st (zu (k := 13) (parts' := [(0, .agg iW.toArray)]) (c := iW.toArray) rT nT vT dc rfl kr ?_)))
 intro dt aO fR
 have ci : Sep _ _ ((RowE (α := Ent) (shr ds dr) 62 (Iy aN 1 1) [(ya d (zY d (g.take k)) (g.getD k default))]) :: _) _ := Sep.blkRow (src := (shr ds dr)) (l := [(ya d (zY d (g.take k)) (g.getD k default))]) (css := [(ya d (zY d (g.take k)) (g.getD k default)).cells P]) ((ch.new fR).mv1) rfl ⟨fun _ _ => ⟨_, rfl, (RdS.base be fO), bd⟩, trivial⟩ yqa (show 1 ≤ maxLen by decide)
 have fS := ci.r0
 have hr335s : _ * 120 ≤ _ := fS.2
 obtain ⟨du, fT, cj, fU, fV⟩ := ci.lend
 have bg := RowE.rdB fT cj
 have hrd342s : _ * 120 ≤ _ := bg.small
 have ck : Sep _ _ ((RowE (α := Ent) (shr du dt) 62 (Iy aO 1 1) [(ya d (zY d (g.take k)) (g.getD k default))]) :: _) _ := Sep.blkRow (src := (shr du dt)) (l := [(ya d (zY d (g.take k)) (g.getD k default))]) (css := [(ya d (zY d (g.take k)) (g.getD k default)).cells T]) fU rfl ⟨fun _ _ => ⟨_, rfl, (RdS.base bf cj), bd⟩, trivial⟩ yqa (show 1 ≤ maxLen by decide)
 have fW := ck.r0
 have hr344s : _ * 120 ≤ _ := fW.2
 obtain ⟨G345, fX, cl, fY, fZ⟩ := ck.lend
 have bh := RowE.rdB fX cl
 have hrd351s : _ * 120 ≤ _ := bh.small
 refine st (cL mY (xd (a := [(ya d (zY d (g.take k)) (g.getD k default))]) (va := (Iy aN 1 1)) (b := [(ya d (zY d (g.take k)) (g.getD k default))]) (vb := (Iy aO 1 1)) (RdS.base bg cl) bh fY) ?_)
 rintro _ dv ⟨rfl, ga⟩
 have gc := fZ _ _ ga
 have gd := fV _ _ gc
 have dw : (decide ([(ya d (zY d (g.take k)) (g.getD k default))] = [(ya d (zY d (g.take k)) (g.getD k default))])) = true := (decide_eq_true rfl)
 rw [dw]
 refine st (yc (a := true) rfl (zb (zi rfl (zk (za ?_)))))
 have ge := fP _ _ ((gd.s10_acdefghij).s9_bcdefghi)
 have gf := fM _ _ ge
 obtain ⟨X, hX⟩ : ∃ z, z = ((zY d (g.take k)) ++ [ya d (zY d (g.take k)) (g.getD k default)]) := ⟨_, rfl⟩
 have cm : X = zY d (g.take (k + 1)) := hX.trans (Yw om).symm
 have iY : X.length = k + 1 := by rw [cm, yq, List.length_take]; omega
 have aq := gf.s10_abcefghij
 try simp +zetaDelta only at aq
 rw [← hX] at aq
 refine R0 fun _ => st (xq rfl (st (xo rfl (st (lD P wR rfl (zd (aq.b4) rfl) ?_)))))
 obtain ⟨dx, gg, gh⟩ := aq.toML
 refine st (cL tY (Za  gg gh) ?_)
 rintro _ w365 ⟨rfl, gi⟩
 refine zb (za ?_)
 refine WD6 ((fun TT Z aa ab ac ad ae => WF [fun vals R => Sep V Q (Z :: aa :: ab :: ac :: ad :: ae :: TT) R, fun vals R => ∃ (m : Value), (vals 11 = (.tuple #[.agg ((ye d bG X).cells m).toArray, .bool ((zh d X bG).isSome)] : Value)) ∧ Sep V Q (ae :: (RwC m (stL d bG X)) :: Z :: aa :: ab :: ac :: ad :: TT) R, fun vals R => ∃ (B : Nat), (vals 15 = (Ix B 0 : Value)) ∧ Sep V Q ((Blk B #[Iv 0, (Iz)] 68) :: Z :: aa :: ab :: ac :: ad :: ae :: TT) R, fun vals R => ∃ (m : Value) (B : Nat), (vals 11 = (.tuple #[.agg ((ye d bG X).cells m).toArray, .bool ((zh d X bG).isSome)] : Value)) ∧ (vals 15 = (Ix B 0 : Value)) ∧ Sep V Q ((Blk B #[Iv 0, (Iz)] 68) :: ae :: (RwC m (stL d bG X)) :: Z :: aa :: ab :: ac :: ad :: TT) R, fun _ _ => True, fun _ _ => True, fun _ _ => True, fun vals R => ∃ (m : Value) (B : Nat), (vals 11 = (.tuple #[.agg ((ye d bG X).cells m).toArray, .bool ((zh d X bG).isSome)] : Value)) ∧ (vals 15 = (Ix B 0 : Value)) ∧ Sep V Q ((Blk B ((ye d bG X).cells m).toArray 68) :: ae :: (RwC m (stL d bG X)) :: Z :: aa :: ab :: ac :: ad :: TT) R]) ((Blk am iZ.toArray 59) :: jf :: je :: Rs) (ML dv dx noX) (RwI T ((g.getD k default).deps)) (ML dp dq noX) (RefV N d X) (Blk Y hv.toArray 62) (ViewO L d X X)) (AF [Vl 0 (Ix L 0), Vl 1 (s), Vl 2 (Iw k), Vl 3 jd, Vl 4 (Ix (sb s) (so s + k * 10 + 4)), Vl 5 (Iv ((g.getD k default).typ)), Vl 6 (s), Vl 7 (Iw k), Vl 8 jd, Vl 9 (Ix (sb s) (so s + k * 10 + 5)), Vl 10 (Iv ((g.getD k default).agg)), fun _ => True, fun vals => ∀ (m : Value), vals 11 = (.tuple #[.agg ((ye d bG X).cells m).toArray, .bool ((zh d X bG).isSome)] : Value) → vals 12 = (.tuple #[.agg ((ye d bG X).cells m).toArray, .bool ((zh d X bG).isSome)] : Value), fun vals => ∀ (m : Value), vals 11 = (.tuple #[.agg ((ye d bG X).cells m).toArray, .bool ((zh d X bG).isSome)] : Value) → vals 13 = (.agg ((ye d bG X).cells m).toArray : Value), Vl 14 (.bool ((zh d X bG).isSome)), fun _ => True, fun _ => True, Vl 17 (.bool ((zh d X bG).isSome))]) [[], [], [], [1, 2], [1, 2, 3], [1, 2, 3, 4], [], [], [6, 7], [6, 7, 8], [6, 7, 8, 9], (rg 11), (rg 12), (rg 13), (rg 13), [], [0, 1, 2, 3, 4, 5, 6, 7, 8, 9, 10, 11, 12, 13, 15], (rg 17)] [11, 15, 16] [[0, 2], [0, 2], [0, 2], [0, 2], [0, 2], [0, 2], [0, 2], [0, 2], [0, 2], [0, 2], [0, 2], [0, 2], [1, 3], [1, 3], [1, 3, 7], [0, 1], [3], [7]] gi ⟨fun _ _ _ _ _ _ => obl rfl (mV (Ix L 0) dR), fun _ _ _ _ _ _ => obl rfl (mV s dR), fun _ _ _ _ _ _ => obl rfl (mV (Iw k) dR), ?_, fun _ _ _ _ _ gj => obl rfl (yB (gj 3 dc) dR), ?_, fun _ _ _ _ _ _ => obl rfl (mV s dR), fun _ _ _ _ _ _ => obl rfl (mV (Iw k) dR), ?_, fun _ _ _ _ _ gk => obl rfl (xl (gk 8 dc) dR), ?_, ?_, ?_, ?_, ?_, ?_, ?_, fun _ _ _ _ _ gl => obl rfl (ym (v := .bool ((zh d X bG).isSome)) (gl 14 dc) dR), trivial⟩ ?_ (hlocA := yT ⟨dA, dA, dA, dA, dA, dA, dA, dA, dA, dA, dA, dT, fun vals C H h => fun m F => (H 12 (.inl rfl)).trans (h m ((H 11 (.inr dc)).symm.trans F)), fun vals C H h => fun m F => (H 13 (.inl rfl)).trans (h m ((H 11 (.inr dc)).symm.trans F)), dA, dT, dT, dA, trivial⟩)
 intro ix vals w524 gm cn ar
 have bi : ix ∈ [0, 2] := gm
 simp only [List.mem_cons, List.not_mem_nil, or_false] at bi
 rcases bi with rfl | rfl
 have hS528 : Sep _ _ _ _ := cn
 refine obl rfl ?_
 have gn : k < g.length := bo
 exact ze (k := 10) (i := k) uT mT (ar 1 dc) t.sl (ar 2 dc) gn dR
 obtain ⟨B, J, hS532⟩ := cn
 refine obl rfl ?_
 have go : k < g.length := bo
 exact ze (k := 10) (i := k) uT mT (ar 1 dc) t.sl (ar 2 dc) go dR
 intro iy vals w543 gp co cp
 have bj : iy ∈ [0, 2] := gp
 simp only [List.mem_cons, List.not_mem_nil, or_false] at bj
 rcases bj with rfl | rfl
 have gq : Sep _ _ _ _ := co
 refine obl rfl ?_
 have dy := gq.cells M (t.foot (ne_of_lt O))
 exact lD (Iv ((g.getD k default).typ)) lT (cp 4 dc) (dy.get (j := 4) rfl) dR
 obtain ⟨B, J, gr⟩ := co
 refine obl rfl ?_
 have dz := gr.cells M (t.foot (ne_of_lt O))
 exact lD (Iv ((g.getD k default).typ)) lT (cp 4 dc) (dz.get (j := 4) rfl) dR
 intro iz vals w566 gs cq au
 have bk : iz ∈ [0, 2] := gs
 simp only [List.mem_cons, List.not_mem_nil, or_false] at bk
 rcases bk with rfl | rfl
 have hS570 : Sep _ _ _ _ := cq
 refine obl rfl ?_
 have gt : k < g.length := bo
 exact ze (k := 10) (i := k) uT mT (au 6 dc) t.sl (au 7 dc) gt dR
 obtain ⟨B, J, hS574⟩ := cq
 refine obl rfl ?_
 have gu : k < g.length := bo
 exact ze (k := 10) (i := k) uT mT (au 6 dc) t.sl (au 7 dc) gu dR
 intro iA vals w585 gv cr cs
 have bl : iA ∈ [0, 2] := gv
 simp only [List.mem_cons, List.not_mem_nil, or_false] at bl
 rcases bl with rfl | rfl
 have gw : Sep _ _ _ _ := cr
 refine obl rfl ?_
 have dB := gw.cells M (t.foot (ne_of_lt O))
 exact lD (Iv ((g.getD k default).agg)) lT (cs 9 dc) (dB.get (j := 5) rfl) dR
 obtain ⟨B, J, gx⟩ := cr
 refine obl rfl ?_
 have dC := gx.cells M (t.foot (ne_of_lt O))
 exact lD (Iv ((g.getD k default).agg)) lT (cs 9 dc) (dC.get (j := 5) rfl) dR
 intro iB vals w598 gy ct af
 have bm : iB ∈ [0, 2] := gy
 simp only [List.mem_cons, List.not_mem_nil, or_false] at bm
 rcases bm with rfl | rfl
 have gz : Sep _ _ _ _ := ct
 refine obl rfl ((zV (f := 32) (vals := [Ix L 0, Iv ((g.getD k default).typ), Iv ((g.getD k default).agg)]) (cap := []) rfl (yH ⟨(af 0 dc), (af 5 dc), (af 10 dc), trivial⟩) sY (xw (ty := (g.getD k default).typ) (no := (g.getD k default).agg) I.typ I.agg (gz.mv5)) ?_))
 rintro _ w608 ⟨m, rfl, cu⟩
 have gA := cu.r1
 have hr610s : _ * 32 ≤ _ := gA.2
 exact fun C H E => ⟨(Exists.intro m (And.intro H cu)), trivial⟩
 obtain ⟨B, J, gB⟩ := ct
 refine obl rfl ((zV (f := 32) (vals := [Ix L 0, Iv ((g.getD k default).typ), Iv ((g.getD k default).agg)]) (cap := []) rfl (yH ⟨(af 0 dc), (af 5 dc), (af 10 dc), trivial⟩) sY (xw (ty := (g.getD k default).typ) (no := (g.getD k default).agg) I.typ I.agg (gB.mv6)) ?_))
 rintro _ w617 ⟨m, rfl, cv⟩
 have gC := cv.r1
 have hr619s : _ * 32 ≤ _ := gC.2
 exact fun C H E => ⟨(Exists.intro m (Exists.intro B (And.intro H (And.intro ((E 15 dc).trans J) (cv.mv2))))), trivial⟩
 intro iC vals w622 gD cw hA623
 have bn : iC ∈ [1, 3] := gD
 simp only [List.mem_cons, List.not_mem_nil, or_false] at bn
 rcases bn with rfl | rfl
 obtain ⟨m, u, hS626⟩ := cw
 refine obl rfl (zP (v := .tuple #[.agg ((ye d bG X).cells m).toArray, .bool ((zh d X bG).isSome)]) u (fun C H E => ⟨rfl, ?_⟩))
 intro aP F
 rw [E 11 (by decide)] at F; cases u.symm.trans F
 exact H
 obtain ⟨m, B, u, J, hS627⟩ := cw
 refine obl rfl (zP (v := .tuple #[.agg ((ye d bG X).cells m).toArray, .bool ((zh d X bG).isSome)]) u (fun C H E => ⟨rfl, ?_⟩))
 intro aP F
 rw [E 11 (by decide)] at F; cases u.symm.trans F
 exact H
 intro iD vals w629 gE cx cy
 have bp : iD ∈ [1, 3] := gE
 simp only [List.mem_cons, List.not_mem_nil, or_false] at bp
 rcases bp with rfl | rfl
 obtain ⟨m, u, hS633⟩ := cx
 have iE : vals 12 = (.tuple #[.agg ((ye d bG X).cells m).toArray, .bool ((zh d X bG).isSome)] : Value) := cy 12 dc m u
 refine obl rfl (zt (vs := [.agg ((ye d bG X).cells m).toArray, .bool ((zh d X bG).isSome)]) (i := 0) (v := .agg ((ye d bG X).cells m).toArray) iE rfl (fun C H E => ⟨rfl, ?_⟩))
 intro aP F
 rw [E 11 (by decide)] at F; cases u.symm.trans F
 exact H
 obtain ⟨m, B, u, J, hS635⟩ := cx
 have iF : vals 12 = (.tuple #[.agg ((ye d bG X).cells m).toArray, .bool ((zh d X bG).isSome)] : Value) := cy 12 dc m u
 refine obl rfl (zt (vs := [.agg ((ye d bG X).cells m).toArray, .bool ((zh d X bG).isSome)]) (i := 0) (v := .agg ((ye d bG X).cells m).toArray) iF rfl (fun C H E => ⟨rfl, ?_⟩))
 intro aP F
 rw [E 11 (by decide)] at F; cases u.symm.trans F
 exact H
 intro iG vals w638 gF aQ aR
 have bq : iG ∈ [1, 3, 7] := gF
 simp only [List.mem_cons, List.not_mem_nil, or_false] at bq
 rcases bq with rfl | rfl | rfl
 obtain ⟨m, u, hS642⟩ := aQ
 have iH : vals 12 = (.tuple #[.agg ((ye d bG X).cells m).toArray, .bool ((zh d X bG).isSome)] : Value) := aR 12 dc m u
 exact obl rfl (zt (vs := [.agg ((ye d bG X).cells m).toArray, .bool ((zh d X bG).isSome)]) (i := 1) (v := .bool ((zh d X bG).isSome)) iH rfl dR)
 obtain ⟨m, B, u, J, hS644⟩ := aQ
 have iI : vals 12 = (.tuple #[.agg ((ye d bG X).cells m).toArray, .bool ((zh d X bG).isSome)] : Value) := aR 12 dc m u
 exact obl rfl (zt (vs := [.agg ((ye d bG X).cells m).toArray, .bool ((zh d X bG).isSome)]) (i := 1) (v := .bool ((zh d X bG).isSome)) iI rfl dR)
 obtain ⟨m, B, u, J, hS646⟩ := aQ
 have iJ : vals 12 = (.tuple #[.agg ((ye d bG X).cells m).toArray, .bool ((zh d X bG).isSome)] : Value) := aR 12 dc m u
 exact obl rfl (zt (vs := [.agg ((ye d bG X).cells m).toArray, .bool ((zh d X bG).isSome)]) (i := 1) (v := .bool ((zh d X bG).isSome)) iJ rfl dR)
 intro iK vals w649 gG cz hA650
 have br : iK ∈ [0, 1] := gG
 simp only [List.mem_cons, List.not_mem_nil, or_false] at br
 rcases br with rfl | rfl
 have gH : Sep _ _ _ _ := cz
 refine obl rfl ((zr nR ?_))
 intro w656 B gI
 exact fun C H E => ⟨(Exists.intro B (And.intro H (gH.new gI))), trivial⟩
 obtain ⟨m, u, gJ⟩ := cz
 refine obl rfl ((zr nR ?_))
 intro w661 B gK
 exact fun C H E => ⟨(Exists.intro m (Exists.intro B (And.intro ((E 11 dc).trans u) (And.intro H (gJ.new gK))))), trivial⟩
 intro iL vals w664 gL gM gN
 have bs : iL ∈ [3] := gL
 simp only [List.mem_cons, List.not_mem_nil, or_false] at bs
 subst bs
 obtain ⟨m, B, u, J, aT⟩ := gM
 refine obl rfl ?_
 have iM : vals 13 = (.agg ((ye d bG X).cells m).toArray : Value) := gN 13 dc m u
 have cA := aT.r2
 have hr672s : _ * 32 ≤ _ := cA.2
 refine (zp (v := .agg ((ye d bG X).cells m).toArray) (c' := ((ye d bG X).cells m).toArray) pT J iM (aT.b0) (zW ⟨rfl, cA.1.one, trivial⟩) yqc rfl ?_)
 intro w670 gO
 exact fun C H E => ⟨(Exists.intro m (Exists.intro B (And.intro ((E 11 dc).trans u) (And.intro ((E 15 dc).trans J) (aT.pt0 gO))))), trivial⟩
 intro vals w680 gP gQ
 obtain ⟨m, B, u, J, gR⟩ := gP
 have iN := gQ 17 dc
 refine zZ (kv := [(2, s), (3, Ix b2 0), (6, .bool false), (8, Ix L 0), (9, Ix N 0), (10, Iw k), (43, Iw k), (44, s), (45, Iw g.length), (46, .bool true), (49, s), (50, Iw k), (51, Ix (sb s) (so s + k * 10)), (52, .agg jc.toArray), (53, .agg iZ.toArray), (11, Ix am 0), (54, Ix L 0), (55, .agg iZ.toArray), (56, .agg hv.toArray), (12, Ix Y 0), (57, Ix N 0), (58, s), (59, Iw k), (60, Ix (sb s) (so s + k * 10)), (61, .agg jc.toArray), (62, .agg iW.toArray), (13, Ix dm 0), (63, Ix am 3), (64, S), (65, .tuple #[]), (66, .agg hv.toArray), (67, (Iy aN 1 1)), (68, .agg iW.toArray), (69, (Iy aO 1 1)), (70, .bool true), (71, .bool false), (72, Ix Y 0), (73, Ix Y 3), (74, P), (75, .tuple #[]), (14, Ix B 0), (15, .bool ((zh d X bG).isSome))]) ⟨rfl, rfl, rfl, rfl, rfl, rfl, rfl, rfl, rfl, rfl, rfl, rfl, rfl, rfl, rfl, rfl, rfl, rfl, rfl, rfl, rfl, rfl, rfl, rfl, rfl, rfl, rfl, rfl, rfl, rfl, rfl, rfl, rfl, rfl, rfl, rfl, rfl, rfl, rfl, rfl, (by exact J), (by exact iN), trivial⟩ (fun ρw680 => ?_)
 refine zb (za ?_)
 refine WD6 ((fun TT Z aa ab ac ad ae bt => WF [fun vals R => Sep V Q (Z :: aa :: ab :: ac :: ad :: ae :: bt :: TT) R, fun vals R => ∃ (p : Value), (vals 11 = (.tuple #[.agg ((ye d bG X).cells p).toArray, .bool ((zh d X bG).isSome)] : Value)) ∧ Sep V Q (bt :: (RwC p (stL d bG X)) :: Z :: aa :: ab :: ac :: ad :: ae :: TT) R, fun vals R => ∃ (D : Nat), (vals 15 = (Ix D 0 : Value)) ∧ Sep V Q ((Blk D #[Iv 0, (Iz)] 68) :: Z :: aa :: ab :: ac :: ad :: ae :: bt :: TT) R, fun vals R => ∃ (p : Value) (D : Nat), (vals 11 = (.tuple #[.agg ((ye d bG X).cells p).toArray, .bool ((zh d X bG).isSome)] : Value)) ∧ (vals 15 = (Ix D 0 : Value)) ∧ Sep V Q ((Blk D #[Iv 0, (Iz)] 68) :: bt :: (RwC p (stL d bG X)) :: Z :: aa :: ab :: ac :: ad :: ae :: TT) R, fun _ _ => True, fun _ _ => True, fun _ _ => True, fun vals R => ∃ (p : Value) (D : Nat), (vals 11 = (.tuple #[.agg ((ye d bG X).cells p).toArray, .bool ((zh d X bG).isSome)] : Value)) ∧ (vals 15 = (Ix D 0 : Value)) ∧ Sep V Q ((Blk D ((ye d bG X).cells p).toArray 68) :: bt :: (RwC p (stL d bG X)) :: Z :: aa :: ab :: ac :: ad :: ae :: TT) R]) ((Blk Y hv.toArray 62) :: (Blk am iZ.toArray 59) :: jf :: je :: Rs) (Blk B ((ye d bG X).cells m).toArray 68) (ViewO L d X X) (RwC m (stL d bG X)) (ML dv dx noX) (RwI T ((g.getD k default).deps)) (ML dp dq noX) (RefV N d X)) (AF [Vl 0 (Ix N 0), Vl 1 (s), Vl 2 (Iw k), Vl 3 jd, Vl 4 (Ix (sb s) (so s + k * 10 + 4)), Vl 5 (Iv ((g.getD k default).typ)), Vl 6 (s), Vl 7 (Iw k), Vl 8 jd, Vl 9 (Ix (sb s) (so s + k * 10 + 5)), Vl 10 (Iv ((g.getD k default).agg)), fun _ => True, fun vals => ∀ (p : Value), vals 11 = (.tuple #[.agg ((ye d bG X).cells p).toArray, .bool ((zh d X bG).isSome)] : Value) → vals 12 = (.tuple #[.agg ((ye d bG X).cells p).toArray, .bool ((zh d X bG).isSome)] : Value), fun vals => ∀ (p : Value), vals 11 = (.tuple #[.agg ((ye d bG X).cells p).toArray, .bool ((zh d X bG).isSome)] : Value) → vals 13 = (.agg ((ye d bG X).cells p).toArray : Value), Vl 14 (.bool ((zh d X bG).isSome)), fun _ => True, fun _ => True, Vl 17 (.bool ((zh d X bG).isSome))]) [[], [], [], [1, 2], [1, 2, 3], [1, 2, 3, 4], [], [], [6, 7], [6, 7, 8], [6, 7, 8, 9], (rg 11), (rg 12), (rg 13), (rg 13), [], [0, 1, 2, 3, 4, 5, 6, 7, 8, 9, 10, 11, 12, 13, 15], (rg 17)] [11, 15, 16] [[0, 2], [0, 2], [0, 2], [0, 2], [0, 2], [0, 2], [0, 2], [0, 2], [0, 2], [0, 2], [0, 2], [0, 2], [1, 3], [1, 3], [1, 3, 7], [0, 1], [3], [7]] gR ⟨fun _ _ _ _ _ _ => obl rfl (mV (Ix N 0) dR), fun _ _ _ _ _ _ => obl rfl (mV s dR), fun _ _ _ _ _ _ => obl rfl (mV (Iw k) dR), ?_, fun _ _ _ _ _ gS => obl rfl (yB (gS 3 dc) dR), ?_, fun _ _ _ _ _ _ => obl rfl (mV s dR), fun _ _ _ _ _ _ => obl rfl (mV (Iw k) dR), ?_, fun _ _ _ _ _ gT => obl rfl (xl (gT 8 dc) dR), ?_, ?_, ?_, ?_, ?_, ?_, ?_, fun _ _ _ _ _ dD => obl rfl (ym (v := .bool ((zh d X bG).isSome)) (dD 14 dc) dR), trivial⟩ ?_ (hlocA := yT ⟨dA, dA, dA, dA, dA, dA, dA, dA, dA, dA, dA, dT, fun vals C H h => fun p F => (H 12 (.inl rfl)).trans (h p ((H 11 (.inr dc)).symm.trans F)), fun vals C H h => fun p F => (H 13 (.inl rfl)).trans (h p ((H 11 (.inr dc)).symm.trans F)), dA, dT, dT, dA, trivial⟩)
 intro iO vals w859 gU cB av
 have bu : iO ∈ [0, 2] := gU
 simp only [List.mem_cons, List.not_mem_nil, or_false] at bu
 rcases bu with rfl | rfl
 have hS863 : Sep _ _ _ _ := cB
 refine obl rfl ?_
 have gV : k < g.length := bo
 exact ze (k := 10) (i := k) uT mT (av 1 dc) t.sl (av 2 dc) gV dR
 obtain ⟨D, K, hS867⟩ := cB
 refine obl rfl ?_
 have gW : k < g.length := bo
 exact ze (k := 10) (i := k) uT mT (av 1 dc) t.sl (av 2 dc) gW dR
 intro iP vals w878 gX cC cD
 have bv : iP ∈ [0, 2] := gX
 simp only [List.mem_cons, List.not_mem_nil, or_false] at bv
 rcases bv with rfl | rfl
 have gY : Sep _ _ _ _ := cC
 refine obl rfl ?_
 have dE := gY.cells M (t.foot (ne_of_lt O))
 exact lD (Iv ((g.getD k default).typ)) lT (cD 4 dc) (dE.get (j := 4) rfl) dR
 obtain ⟨D, K, gZ⟩ := cC
 refine obl rfl ?_
 have dF := gZ.cells M (t.foot (ne_of_lt O))
 exact lD (Iv ((g.getD k default).typ)) lT (cD 4 dc) (dF.get (j := 4) rfl) dR
 intro iQ vals w901 ha cE aw
 have bw : iQ ∈ [0, 2] := ha
 simp only [List.mem_cons, List.not_mem_nil, or_false] at bw
 rcases bw with rfl | rfl
 have hS905 : Sep _ _ _ _ := cE
 refine obl rfl ?_
 have hb : k < g.length := bo
 exact ze (k := 10) (i := k) uT mT (aw 6 dc) t.sl (aw 7 dc) hb dR
 obtain ⟨D, K, hS909⟩ := cE
 refine obl rfl ?_
 have hc : k < g.length := bo
 exact ze (k := 10) (i := k) uT mT (aw 6 dc) t.sl (aw 7 dc) hc dR
 intro iR vals w920 hd cF cG
 have bx : iR ∈ [0, 2] := hd
 simp only [List.mem_cons, List.not_mem_nil, or_false] at bx
 rcases bx with rfl | rfl
 have he : Sep _ _ _ _ := cF
 refine obl rfl ?_
 have dG := he.cells M (t.foot (ne_of_lt O))
 exact lD (Iv ((g.getD k default).agg)) lT (cG 9 dc) (dG.get (j := 5) rfl) dR
 obtain ⟨D, K, hf⟩ := cF
 refine obl rfl ?_
 have dH := hf.cells M (t.foot (ne_of_lt O))
 exact lD (Iv ((g.getD k default).agg)) lT (cG 9 dc) (dH.get (j := 5) rfl) dR
 intro iS vals w933 hg cH ag
 have bz : iS ∈ [0, 2] := hg
 simp only [List.mem_cons, List.not_mem_nil, or_false] at bz
 rcases bz with rfl | rfl
 have hh : Sep _ _ _ _ := cH
 refine obl rfl ?_
 obtain ⟨G942, cI, hB945, hi, hj⟩ := (hh.mv6).lend
 obtain ⟨vt948, vp949, ve950, hb951, hk, hm, ho⟩ := RefV.sh cI
 have hsm955 : d.types.length * 24 ≤ 140737488355328 := hk.small
 have hsm956 : d.projs.length * 40 ≤ 140737488355328 := hm.small
 have hsm957 : X.length * 120 ≤ 140737488355328 := ho.small
 refine (zV (f := 33) (vals := [Ix N 0, Iv ((g.getD k default).typ), Iv ((g.getD k default).agg)]) (cap := []) rfl (yH ⟨(ag 0 dc), (ag 5 dc), (ag 10 dc), trivial⟩) pY (ZX (ty := (g.getD k default).typ) (no := (g.getD k default).agg) cI I.typ I.agg hi (hdo) (⟨_, cm⟩) (om)) ?_)
 rintro _ w959 ⟨p, rfl, cJ⟩
 have hp := cJ.r0
 have hr961s : _ * 32 ≤ _ := hp.2
 have hq := hj _ _ cJ
 exact fun C H E => ⟨(Exists.intro p (And.intro H hq)), trivial⟩
 obtain ⟨D, K, hr⟩ := cH
 refine obl rfl ?_
 obtain ⟨G968, cK, hB971, hs, ht⟩ := (hr.mv7).lend
 obtain ⟨vt974, vp975, ve976, hb977, hu, hw, hx⟩ := RefV.sh cK
 have hsm981 : d.types.length * 24 ≤ 140737488355328 := hu.small
 have hsm982 : d.projs.length * 40 ≤ 140737488355328 := hw.small
 have hsm983 : X.length * 120 ≤ 140737488355328 := hx.small
 refine (zV (f := 33) (vals := [Ix N 0, Iv ((g.getD k default).typ), Iv ((g.getD k default).agg)]) (cap := []) rfl (yH ⟨(ag 0 dc), (ag 5 dc), (ag 10 dc), trivial⟩) pY (ZX (ty := (g.getD k default).typ) (no := (g.getD k default).agg) cK I.typ I.agg hs (hdo) (⟨_, cm⟩) (om)) ?_)
 rintro _ w985 ⟨p, rfl, cM⟩
 have hy := cM.r0
 have hr987s : _ * 32 ≤ _ := hy.2
 have hz := ht _ _ cM
 exact fun C H E => ⟨(Exists.intro p (Exists.intro D (And.intro H (And.intro ((E 15 dc).trans K) (hz.mv2))))), trivial⟩
 intro iT vals w991 hA cN hA992
 have bA : iT ∈ [1, 3] := hA
 simp only [List.mem_cons, List.not_mem_nil, or_false] at bA
 rcases bA with rfl | rfl
 obtain ⟨p, A, hS995⟩ := cN
 refine obl rfl (zP (v := .tuple #[.agg ((ye d bG X).cells p).toArray, .bool ((zh d X bG).isSome)]) A (fun C H E => ⟨rfl, ?_⟩))
 intro aU F
 rw [E 11 (by decide)] at F; cases A.symm.trans F
 exact H
 obtain ⟨p, D, A, K, hS996⟩ := cN
 refine obl rfl (zP (v := .tuple #[.agg ((ye d bG X).cells p).toArray, .bool ((zh d X bG).isSome)]) A (fun C H E => ⟨rfl, ?_⟩))
 intro aU F
 rw [E 11 (by decide)] at F; cases A.symm.trans F
 exact H
 intro iU vals w998 dI bB cO
 have aE : iU ∈ [1, 3] := dI
 simp only [List.mem_cons, List.not_mem_nil, or_false] at aE
 rcases aE with rfl | rfl
 obtain ⟨p, A, hS1002⟩ := bB
 have hB : vals 12 = (.tuple #[.agg ((ye d bG X).cells p).toArray, .bool ((zh d X bG).isSome)] : Value) := cO 12 dc p A
 refine obl rfl (zt (vs := [.agg ((ye d bG X).cells p).toArray, .bool ((zh d X bG).isSome)]) (i := 0) (v := .agg ((ye d bG X).cells p).toArray) hB rfl (fun C H E => ⟨rfl, ?_⟩))
 intro aU F
 rw [E 11 (by decide)] at F; cases A.symm.trans F
 exact H
 obtain ⟨p, D, A, K, hS1004⟩ := bB
 have hC : vals 12 = (.tuple #[.agg ((ye d bG X).cells p).toArray, .bool ((zh d X bG).isSome)] : Value) := cO 12 dc p A
 refine obl rfl (zt (vs := [.agg ((ye d bG X).cells p).toArray, .bool ((zh d X bG).isSome)]) (i := 0) (v := .agg ((ye d bG X).cells p).toArray) hC rfl (fun C H E => ⟨rfl, ?_⟩))
 intro aU F
 rw [E 11 (by decide)] at F; cases A.symm.trans F
 exact H
 intro hD vals w1007 dJ ay az
 have aF : hD ∈ [1, 3, 7] := dJ
 simp only [List.mem_cons, List.not_mem_nil, or_false] at aF
 rcases aF with rfl | rfl | rfl
 obtain ⟨p, A, hS1011⟩ := ay
 have hE : vals 12 = (.tuple #[.agg ((ye d bG X).cells p).toArray, .bool ((zh d X bG).isSome)] : Value) := az 12 dc p A
 exact obl rfl (zt (vs := [.agg ((ye d bG X).cells p).toArray, .bool ((zh d X bG).isSome)]) (i := 1) (v := .bool ((zh d X bG).isSome)) hE rfl dR)
 obtain ⟨p, D, A, K, hS1013⟩ := ay
 have hF : vals 12 = (.tuple #[.agg ((ye d bG X).cells p).toArray, .bool ((zh d X bG).isSome)] : Value) := az 12 dc p A
 exact obl rfl (zt (vs := [.agg ((ye d bG X).cells p).toArray, .bool ((zh d X bG).isSome)]) (i := 1) (v := .bool ((zh d X bG).isSome)) hF rfl dR)
 obtain ⟨p, D, A, K, hS1015⟩ := ay
 have hG : vals 12 = (.tuple #[.agg ((ye d bG X).cells p).toArray, .bool ((zh d X bG).isSome)] : Value) := az 12 dc p A
 exact obl rfl (zt (vs := [.agg ((ye d bG X).cells p).toArray, .bool ((zh d X bG).isSome)]) (i := 1) (v := .bool ((zh d X bG).isSome)) hG rfl dR)
 intro hH vals w1018 dK bC hA1019
 have aG : hH ∈ [0, 1] := dK
 simp only [List.mem_cons, List.not_mem_nil, or_false] at aG
 rcases aG with rfl | rfl
 have dL : Sep _ _ _ _ := bC
 refine obl rfl ((zr nR ?_))
 intro w1025 D dM
 exact fun C H E => ⟨(Exists.intro D (And.intro H (dL.new dM))), trivial⟩
 obtain ⟨p, A, dN⟩ := bC
 refine obl rfl ((zr nR ?_))
 intro w1030 D dO
 exact fun C H E => ⟨(Exists.intro p (Exists.intro D (And.intro ((E 11 dc).trans A) (And.intro H (dN.new dO))))), trivial⟩
 intro hI vals w1033 dP dQ dS
 have aH : hI ∈ [3] := dP
 simp only [List.mem_cons, List.not_mem_nil, or_false] at aH
 subst aH
 obtain ⟨p, D, A, K, aA⟩ := dQ
 refine obl rfl ?_
 have hJ : vals 13 = (.agg ((ye d bG X).cells p).toArray : Value) := dS 13 dc p A
 have bD := aA.r2
 have hr1041s : _ * 32 ≤ _ := bD.2
 refine (zp (v := .agg ((ye d bG X).cells p).toArray) (c' := ((ye d bG X).cells p).toArray) pT K hJ (aA.b0) (zW ⟨rfl, bD.1.one, trivial⟩) yqc rfl ?_)
 intro w1039 dU
 exact fun C H E => ⟨(Exists.intro p (Exists.intro D (And.intro ((E 11 dc).trans A) (And.intro ((E 15 dc).trans K) (aA.pt0 dU))))), trivial⟩
 intro vals w1049 dV dW
 obtain ⟨p, D, A, K, aB⟩ := dV
 have hK := dW 17 dc
 refine zZ (kv := [(2, s), (3, Ix b2 0), (6, .bool false), (8, Ix L 0), (9, Ix N 0), (10, Iw k), (43, Iw k), (44, s), (45, Iw g.length), (46, .bool true), (49, s), (50, Iw k), (51, Ix (sb s) (so s + k * 10)), (52, .agg jc.toArray), (53, .agg iZ.toArray), (11, Ix am 0), (54, Ix L 0), (55, .agg iZ.toArray), (56, .agg hv.toArray), (12, Ix Y 0), (57, Ix N 0), (58, s), (59, Iw k), (60, Ix (sb s) (so s + k * 10)), (61, .agg jc.toArray), (62, .agg iW.toArray), (13, Ix dm 0), (63, Ix am 3), (64, S), (65, .tuple #[]), (66, .agg hv.toArray), (67, (Iy aN 1 1)), (68, .agg iW.toArray), (69, (Iy aO 1 1)), (70, .bool true), (71, .bool false), (72, Ix Y 0), (73, Ix Y 3), (74, P), (75, .tuple #[]), (14, Ix B 0), (15, .bool ((zh d X bG).isSome)), (16, Ix D 0), (17, .bool ((zh d X bG).isSome))]) ⟨rfl, rfl, rfl, rfl, rfl, rfl, rfl, rfl, rfl, rfl, rfl, rfl, rfl, rfl, rfl, rfl, rfl, rfl, rfl, rfl, rfl, rfl, rfl, rfl, rfl, rfl, rfl, rfl, rfl, rfl, rfl, rfl, rfl, rfl, rfl, rfl, rfl, rfl, rfl, rfl, rfl, rfl, (by exact K), (by exact hK), trivial⟩ (fun ρw1049 => ?_)
 refine zb (za (za (zw kr (st (mV (.bool ((zh d X bG).isSome)) (st (mV (.bool ((zh d X bG).isSome)) (st (Wm (a := (zh d X bG).isSome) (b := (zh d X bG).isSome) Tryd.underlying4 rfl rfl ?_)))))))))
 have cP : (!(((zh d X bG).isSome) == ((zh d X bG).isSome))) = false := (by simp)
 rw [cP]
 refine st (mV (.bool false) (sty rfl rfl (zg (k := 2) qR pT rfl rfl (CellsAt.all (aB.b3)) (sty rfl rfl (zg (k := 2) qR pT rfl rfl (CellsAt.all (aB.b0)) ?_)))))
 obtain ⟨G1056, dX, hB1059, dY, dZ⟩ := (aB.mv5).lend
 have aI := RowE.rd dX
 have hrd1062s : _ * 32 ≤ _ := aI.small
 obtain ⟨G1064, ea, eb, ec, ed⟩ := (dY.mv2).lend
 have aJ := RowE.rd ea
 have hrd1070s : _ * 32 ≤ _ := aJ.small
 refine sty rfl rfl (cL Tryd.call34 (YB (x := (ye d (((g.getD k default).typ), ((g.getD k default).agg)) X)) (y := (ye d (((g.getD k default).typ), ((g.getD k default).agg)) X)) (RdS.base aI eb) (XF (by first | omega | (rw [yq]; omega) | (rw [yq]; exact Nat.le_trans (List.length_filter_le _ _) (by rw [List.length_take]; omega)))) aJ (XF (by first | omega | (rw [yq]; omega) | (rw [yq]; exact Nat.le_trans (List.length_filter_le _ _) (by rw [List.length_take]; omega)))) ec) ?_)
 rintro _ w1071 ⟨rfl, ee⟩
 have ef := ed _ _ ee
 have bE := dZ _ _ ef
 have cQ : (decide ((ye d bG X) = (ye d bG X))) = true := (decide_eq_true rfl)
 rw [cQ]
 refine sty rfl rfl (yc (a := true) rfl (st (zO (v := .bool false) rfl rfl (zb (zi rfl (zk (R0 fun _ => st (zg (k := 2) qR pT rfl rfl (CellsAt.all (bE.b4)) ?_))))))))
 obtain ⟨f1076, eg, eh⟩ := bE.toML
 refine st (cL Tryd.call35 (UJ  eg (XF (by first | omega | (rw [yq]; omega) | (rw [yq]; exact Nat.le_trans (List.length_filter_le _ _) (by rw [List.length_take]; omega)))) eh) ?_)
 rintro _ hL ⟨rfl, ei⟩
 refine zb (R0 fun _ => st (mV (Iw k) ?_))
 have ej : InR ((k + 1 : Nat) : Int) := bo
 refine st (zH (r := ((k + 1 : Nat) : Int)) (k := .i64) (a := ((k : Nat) : Int)) (b := 1) rfl rfl (by rw [show (((k : Nat) : Int) + 1 : Int) = ((k + 1 : Nat) : Int) from bo]; exact zz ej) (st (aS (Iw (k + 1)) (zb ?_))))
 have aC : Sep V Q ((RefV N d X) :: (ViewO L d X X) :: jf :: je :: Rs) hL := ei.sel 12 [2, 4, 10, 11] (Nat.le_add_left _ _) rfl rfl
 have ek : (zY d (g.take (k + 1))) = X := cm.symm
 try simp +zetaDelta only at aC
 rw [← ek] at aC
 exact ⟨_, by omega, k + 1, _, rfl, sSf, by omega, aC⟩
 try simp only [zf] at cR
 refine zj rfl (za (R0 fun _ => st (cL uA (xj  hKN hN) ?_)))
 rintro _ w1085 ⟨rfl, el⟩
 refine st (aS (.bool true) (zb (zm (zL vA (show _ = (.bool true : Value) from rfl) ?_))))
 refine ⟨rfl, (el.s1_)⟩

end Go.Proofs.YtlblilbmpdejgaaDoor
