import Derived.Test.YtbbabhaalmkbkaaGreatDoorN3
import Derived.Test.YtbbabhaalmkbkaaGreatDoorN2
import Derived.Test.YtbbabhaalmkbkaaGreatDoorN1
import Derived.Lib.LaidTab
import Derived.LaidMore
import Derived.LaidLaws
import Derived.Stop.Joined
set_option linter.unusedSimpArgs false
set_option linter.unusedVariables false
set_option linter.unusedSectionVars false
set_option linter.deprecated false
set_option maxRecDepth 8000
open Go.Proofs.Tryz renaming isAgg3 → kT, sizeOf110 → lT, isAgg22 → mT, underlying22 → nT, underlying51 → oT, underlying108 → pT, sizeOf53 → qT, isAgg51 → rT, isAgg108 → sT, isAgg110 → tT, sizeOf136 → uT, zeroValue110 → vT, results22 → wT, results51 → kR, results47 → lR, underlying39 → mR, isAgg23 → nR, underlying23 → oR, results21 → pR, results46 → qR, call73 → rR, isAgg53 → sR, zeroValue136 → tR, isAgg25 → uR, sizeOf25 → vR, sizeOf115 → wR, results8 → kY, results42 → lY, sizeOf3 → mY, results72 → nY, results49 → oY, call49 → pY, isAgg136 → qY, sizeOf108 → rY, results48 → sY, results88 → tY
namespace Go.Proofs.YtbbabhaalmkbkaaGreatDoor
open Go.Proofs Go.RowKit

theorem Zv {P : Program} {σ : Env} {w : World} {fn : Func} {a u : Tmp} {t : TypeId} {R : Value → World → Prop} {b k : Nat} {cs : List Value} {v' : Value} (hr : fn.results = #[.cell a t, .tmp u]) (hA : ∀ w, (isAgg t).run P w = .ok true w) (hS : ∀ w, (sizeOf t).run P w = .ok k w) (hk : cs.length = k)
    (hv : σ a = .pointer (some ⟨b, 0, none⟩)) (hc : CellsAt w b 0 cs) (hu : σ u = v') (h : R (.tuple #[.agg cs.toArray, v']) w) : ZM P fn R .ret σ w := by
  subst hk
  refine ⟨_, fun tmps ht => ?_, h⟩
  have := yB (P := P) (w := w) b 0 cs 0 #[] (fun j hj => by simpa using hc j hj)
  have e : tmps[a]?.getD undef = .pointer (some ⟨b, 0, none⟩) := by rw [← hv, ← ht a]; simp
  have e2 : tmps[u]?.getD undef = v' := by rw [← hu, ← ht u]; simp
  simp [results, hr, e, e2, asAddr, loadVar, hA, hS, loadCells, this, go_sem]
def yz (t : Typ) (n : Int) : Int := if n < 0 ∨ (t.fields.length : Int) ≤ n then 0 else (t.fields.getD n.toNat default).kind
def Vk (t : Typ) (f : Fld) : Prop := (1 ≤ f.kind ∧ f.kind ≤ 4) ∧ (f.floor = true → f.kind = 1) ∧ ∀ j, j < f.moves.length → (f.moves.getD j default).need = -1 ∨ yz t (f.moves.getD j default).need = 1
def zaP (f : Fld) : Prop := (f.kind = 4 → 1 ≤ f.moves.length) ∧ f.moves.length ≤ 16
def FewT (t : Typ) : Prop := (1 ≤ t.fields.length ∧ t.fields.length ≤ 8) ∧ ∀ j, j < t.fields.length → zaP (t.fields.getD j default)
def UV (p : Prj) : Prop := 0 ≤ p.pby ∧ (1 ≤ p.pgroup ∧ p.pgroup ≤ 3) ∧ 1 ≤ p.pmake ∧ p.pmake ≤ 5
def QW (d : Dcl) : Prop := d.projs.length ≤ 8 ∧ ∀ i, i < d.projs.length → UV (d.projs.getD i default)
theorem QG {t : Typ} {n : Int} (h : yz t n = 2) : 0 ≤ n := by
  unfold yz at h
  split at h
  · cases h
  · omega
def FewD (d : Dcl) : Prop := (1 ≤ d.types.length ∧ d.types.length ≤ 8) ∧ ∀ i, i < d.types.length → FewT (d.types.getD i default)
theorem yU {p : Nat → Prop} {k : Nat} (h : ∀ i, i < k → p i) (hk : p k) : ∀ i, i < k + 1 → p i := fun i hi => by
  by_cases e : i = k
  · rw [e]; exact hk
  · exact h i (by omega)
theorem zbx {d : Dcl} (h1 : FewD d) (h2 : ∀ i, i < d.types.length → ∀ j, j < (d.types.getD i default).fields.length → Vk (d.types.getD i default) ((d.types.getD i default).fields.getD j default)) : DclOk d := by
  refine ⟨h1.1.1, h1.1.2, fun i hi => ?_⟩
  have f1 := h1.2 i hi
  have f2 := h2 i hi
  refine ⟨f1.1.1, f1.1.2, fun j hj => (f2 j hj).1, fun j hj => (f2 j hj).2.1, fun j hj => f1.2 j hj, fun j hj q hq => ?_⟩
  rcases (f2 j hj).2.2 q hq with h | h
  · exact .inl h
  · right
    unfold yz at h
    split at h
    · omega
    · rename_i hn
      exact ⟨by omega, by omega, h⟩
theorem zbt {G : Nat → Prop} {W w : World} {Rs : List HP} {d : Dcl} {dd0 : Value} (hdd0 : RdS W G dd0 d.types) {dd1 : Value} (hdd1 : RdS W G dd1 d.projs) (od : d.Ok) (hS0 : Sep G W Rs w) : Ret Tryz.prog 21 [.agg (d.cells dd0 dd1).toArray] w (fun r w' => ∃ (b : Bool), r = (.bool b : Value) ∧ Sep G W Rs w') := by
 have hdd0s : _ * 24 ≤ _ := hdd0.small
 have hdd1s : _ * 40 ≤ _ := hdd1.small
 refine zi (args := [.agg (d.cells dd0 dd1).toArray]) Tryz.func21 rfl rfl ?_
 refine za (R0 fun _ => st (zH (v := .agg (d.cells dd0 dd1).toArray) rfl ?_))
 intro w3 b2 N
 have s := hS0.new N
 refine st (aS (.bool false) (zd (za (za (zv kr (st (yC rfl (st (lD dd0 mT rfl (zb (s.b0) rfl) (st (zL (n := d.types.length) nT rfl hdd0.sl (st (yM (k := .i64) (a := ((d.types.length : Nat) : Int)) (b := 20) rfl rfl (st (mV (.bool (decide (20 < ((d.types.length : Nat) : Int)))) (stc (V := Ix b2 1) rfl rfl (fun O => ?_) ?_))))))))))))))))
 have hl6 := fD O
 exact Xs rfl ⟨rfl, rfl⟩
 refine stc (V := dd1) rfl rfl (fun D => ?_) ?_
 have hl8 := fD D
 exact lD dd1 nR (if_pos D) (zb (s.b0) rfl) ⟨rfl, rfl⟩
 refine stc (V := Iw d.projs.length) rfl rfl (fun E => ?_) ?_
 have hl10 := fD E
 exact zL (n := d.projs.length) oR (if_pos E) hdd1.sl ⟨rfl, rfl⟩
 refine stc (V := .bool (decide (20 < ((d.projs.length : Nat) : Int)))) rfl rfl (fun t => ?_) ?_
 have hl12 := fD t
 exact yM (k := .i64) (a := ((d.projs.length : Nat) : Int)) (b := 20) (if_pos t) rfl ⟨rfl, rfl⟩
 refine st (zo (b := decide (20 < ((d.types.length : Nat) : Int))) (b' := decide (20 < ((d.projs.length : Nat) : Int))) rfl (fun hbp => (if_pos hbp)) (zd ?_))
 cases u : (decide (20 < ((d.types.length : Nat) : Int))) || (decide (20 < ((d.projs.length : Nat) : Int)))
 try simp only [ze] at u
 refine zg rfl (zl (za (za (R0 fun _ => st (aS (Iv 0) (zd (zw (yh (fun mq σ F => ∃ (k : Nat) (ρ : Env), mq = d.types.length - k ∧ σ = ye ρ [(1, Ix b2 0), (3, Iw k)] ∧ (k ≤ d.types.length) ∧ Sep G W ((Blk b2 (d.cells dd0 dd1).toArray 25) :: Rs) F) ⟨0, _, rfl, sSf, Nat.zero_le _, s⟩ ?_))))))))
 rintro m15 σ16 w14 ⟨k, ρl1, rfl, rfl, hkk, f⟩
 let P := zP W (sb dd0) (so dd0 + k * 1 + 0)
 refine za (za (R0 fun _ => st (mV (Iw k) (st (yC rfl (st (lD dd0 mT rfl (zb (f.b0) rfl) (st (zL (n := d.types.length) nT rfl hdd0.sl (st (zF (k := .i64) (a := ((k : Nat) : Int)) (b := ((d.types.length : Nat) : Int)) rfl rfl (zd ?_))))))))))))
 cases h : decide (((k : Nat) : Int) < ((d.types.length : Nat) : Int))
 have h := fD h
 refine zg rfl (yi (yb (za (R0 fun _ => st (aS (.bool false) (zd (zk (zG pR (show _ = (.bool false : Value) from rfl) ?_))))))))
 refine ⟨false, rfl, (f.s1_)⟩
 have h := tD h
 refine zh rfl (zl (za (zw (za (za (R0 fun _ => st (yC rfl (st (lD dd0 mT rfl (zb (f.b0) rfl) (st (mV (Iw k) ?_)))))))))))
 have H : k < d.types.length := bo
 refine st (zn (k := 1) (i := k) nT qT rfl hdd0.sl rfl H (st (yZ rfl ?_)))
 have l : k < d.types.length := bo
 obtain ⟨m, c, hoke21⟩ := hdd0.typD l
 have hsm23 : ((d.types.getD k default).fields).length * 48 ≤ 140737488355328 := c.small
 have y := f.cells m (hdd0.foot (ne_of_lt l))
 refine st (lD P rT rfl (y.get (j := 0) rfl) (st (zL (n := ((d.types.getD k default).fields).length) oT rfl c.sl (st (yM (k := .i64) (a := ((((d.types.getD k default).fields).length : Nat) : Int)) (b := 20) rfl rfl (zd ?_))))))
 cases o : decide (20 < ((((d.types.getD k default).fields).length : Nat) : Int))
 have o := fD o
 refine zg rfl (zl (za (R0 fun _ => st (aS (Iv 0) (zd (zw (yh (fun mq σ F => ∃ (j : Nat) (ρ : Env), mq = (d.types.getD k default).fields.length - j ∧ σ = ye ρ [(1, Ix b2 0), (3, Iw k), (4, Iw j)] ∧ (j ≤ (d.types.getD k default).fields.length) ∧ Sep G W ((Blk b2 (d.cells dd0 dd1).toArray 25) :: Rs) F) ⟨0, _, rfl, sSf, Nat.zero_le _, f⟩ ?_)))))))
 rintro m27 σ28 w26 ⟨j, ρl2, rfl, rfl, hkj, e⟩
 refine za (za (R0 fun _ => st (mV (Iw j) (st (yC rfl (st (lD dd0 mT rfl (zb (e.b0) rfl) (st (mV (Iw k) ?_)))))))))
 have I : k < d.types.length := bo
 refine st (zn (k := 1) (i := k) nT qT rfl hdd0.sl rfl I (st (yZ rfl ?_)))
 have z := e.cells m (hdd0.foot (ne_of_lt l))
 refine st (lD P rT rfl (z.get (j := 0) rfl) (st (zL (n := ((d.types.getD k default).fields).length) oT rfl c.sl (st (zF (k := .i64) (a := ((j : Nat) : Int)) (b := ((((d.types.getD k default).fields).length : Nat) : Int)) rfl rfl (zd ?_))))))
 cases p : decide (((j : Nat) : Int) < ((((d.types.getD k default).fields).length : Nat) : Int))
 have p := fD p
 refine zg rfl (yi (yb (R0 fun _ => st (mV (Iw k) ?_))))
 have J : InR ((k + 1 : Nat) : Int) := bo
 refine st (zV (r := ((k + 1 : Nat) : Int)) (k := .i64) (a := ((k : Nat) : Int)) (b := 1) rfl rfl (by rw [show (((k : Nat) : Int) + 1 : Int) = ((k + 1 : Nat) : Int) from bo]; exact zJ J) (st (aS (Iw (k + 1)) (zd ?_))))
 exact ⟨_, by omega, k + 1, _, rfl, sSf, by omega, e⟩
 have p := tD p
 refine zh rfl (zl (za (zw (za (R0 fun _ => st (yC rfl (st (lD dd0 mT rfl (zb (e.b0) rfl) (st (mV (Iw k) ?_))))))))))
 have K : k < d.types.length := bo
 refine st (zn (k := 1) (i := k) nT qT rfl hdd0.sl rfl K (st (yZ rfl ?_)))
 have A := e.cells m (hdd0.foot (ne_of_lt l))
 refine st (lD P rT rfl (A.get (j := 0) rfl) (st (mV (Iw j) ?_)))
 have L : j < ((d.types.getD k default).fields).length := bo
 refine st (zn (k := 4) (i := j) oT lT rfl c.sl rfl L (st (yF rfl ?_)))
 have x : j < ((d.types.getD k default).fields).length := bo
 obtain ⟨B, g, hoke39⟩ := c.fldD x
 have hsm41 : ((((d.types.getD k default).fields).getD j default).moves).length * 32 ≤ 140737488355328 := g.small
 have C := e.cells B (c.foot (ne_of_lt x))
 refine st (lD (zP W (sb P) (so P + j * 4 + 3)) sT rfl (C.get (j := 3) rfl) (st (zL (n := ((((d.types.getD k default).fields).getD j default).moves).length) pT rfl g.sl (st (yM (k := .i64) (a := ((((((d.types.getD k default).fields).getD j default).moves).length : Nat) : Int)) (b := 40) rfl rfl (zd ?_))))))
 cases q : decide (40 < ((((((d.types.getD k default).fields).getD j default).moves).length : Nat) : Int))
 have q := fD q
 refine zg rfl (zl (R0 fun _ => st (mV (Iw j) ?_)))
 have M : InR ((j + 1 : Nat) : Int) := bo
 refine st (zV (r := ((j + 1 : Nat) : Int)) (k := .i64) (a := ((j : Nat) : Int)) (b := 1) rfl rfl (by rw [show (((j : Nat) : Int) + 1 : Int) = ((j + 1 : Nat) : Int) from bo]; exact zJ M) (st (aS (Iw (j + 1)) (zd ?_))))
 exact ⟨_, by omega, j + 1, _, rfl, sSf, by omega, e⟩
 have q := tD q
 refine zh rfl (za (R0 fun _ => st (aS (.bool true) (zd (zk (zG pR (show _ = (.bool true : Value) from rfl) ?_))))))
 refine ⟨true, rfl, (e.s1_)⟩
 have o := tD o
 refine zh rfl (za (R0 fun _ => st (aS (.bool true) (zd (zk (zG pR (show _ = (.bool true : Value) from rfl) ?_))))))
 refine ⟨true, rfl, (f.s1_)⟩
 try simp only [ze] at u
 refine zh rfl (za (R0 fun _ => st (aS (.bool true) (zd (zk (zG pR (show _ = (.bool true : Value) from rfl) ?_))))))
 refine ⟨true, rfl, (s.s1_)⟩

theorem Kw {G : Nat → Prop} {W w : World} {Rs : List HP} {t : Typ} {dt0 : Value} (hdt0 : RdS W G dt0 t.fields) (ot : t.Ok) {n : Int} (hn : InR n) (hS0 : Sep G W Rs w) : Ret Tryz.prog 49 [.agg (t.cells dt0).toArray, .int .i64 (n)] w (fun r w' => r = (.int .i64 ((yz t n)) : Value) ∧ Sep G W Rs w') := by
 have hdt0s : _ * 48 ≤ _ := hdt0.small
 refine zi (args := [.agg (t.cells dt0).toArray, Iv n]) Tryz.func49 rfl rfl ?_
 refine za (R0 fun _ => st (zH (v := .agg (t.cells dt0).toArray) rfl ?_))
 intro w3 b2 p
 have c := hS0.new p
 refine st (aS (Iv 0) (zd (za (za (zv kr (st (mV (Iv n) (st (zF (k := .i64) (a := n) (b := 0) rfl rfl (st (mV (.bool (decide (n < 0))) (stc (V := Iv n) rfl rfl (fun q => ?_) ?_))))))))))))
 have hl6 := fD q
 exact mV (Iv n) ⟨rfl, rfl⟩
 refine stc (V := Ix b2 0) rfl rfl (fun s => ?_) ?_
 have hl8 := fD s
 exact yZ rfl ⟨rfl, rfl⟩
 refine stc (V := dt0) rfl rfl (fun o => ?_) ?_
 have hl10 := fD o
 exact lD dt0 rT (if_pos o) (zb (c.b0) rfl) ⟨rfl, rfl⟩
 refine stc (V := Iw t.fields.length) rfl rfl (fun f => ?_) ?_
 have hl12 := fD f
 exact zL (n := t.fields.length) oT (if_pos f) hdt0.sl ⟨rfl, rfl⟩
 refine stc (V := .bool (decide (((t.fields.length : Nat) : Int) ≤ n))) rfl rfl (fun d => ?_) ?_
 have hl14 := fD d
 exact xo (k := .i64) (a := n) (b := ((t.fields.length : Nat) : Int)) (if_pos d) (if_pos d) ⟨rfl, rfl⟩
 refine st (zo (b := decide (n < 0)) (b' := decide (((t.fields.length : Nat) : Int) ≤ n)) rfl (fun hbp => (if_pos hbp)) (zd ?_))
 cases g : (decide (n < 0)) || (decide (((t.fields.length : Nat) : Int) ≤ n))
 try simp only [ze] at g
 refine zg rfl (zl (za (R0 fun _ => st (yZ rfl (st (lD dt0 rT rfl (zb (c.b0) rfl) (st (mV (Iv n) ?_))))))))
 have hi16 : n.toNat < t.fields.length := bo
 refine st (zz (k := 4) (i := n) oT lT rfl hdt0.sl rfl ⟨by omega, by omega⟩ (st (xr rfl ?_)))
 have h : n.toNat < t.fields.length := bo
 obtain ⟨l, e, hoke17⟩ := hdt0.fldD h
 have hsm19 : ((t.fields.getD n.toNat default).moves).length * 32 ≤ 140737488355328 := e.small
 have m := c.cells l (hdt0.foot (ne_of_lt h))
 refine st (lD (Iv ((t.fields.getD n.toNat default).kind)) kT rfl (m.get (j := 0) rfl) (st (aS (Iv ((t.fields.getD n.toNat default).kind)) (zd (zk (zG oY (show _ = (Iv ((t.fields.getD n.toNat default).kind) : Value) from rfl) ?_))))))
 refine ⟨?_, (c.s1_)⟩
 unfold yz
 rw [if_neg (by omega)]
 try simp only [ze] at g
 refine zh rfl (za (R0 fun _ => st (aS (Iv 0) (zd (zk (zG oY (show _ = (Iv 0 : Value) from rfl) ?_))))))
 refine ⟨?_, (c.s1_)⟩
 unfold yz
 rw [if_pos (by omega)]

theorem zbc {G : Nat → Prop} {W w : World} {Rs : List HP} {d : Dcl} {dd0 : Value} (hdd0 : RdS W G dd0 d.types) {dd1 : Value} (hdd1 : RdS W G dd1 d.projs) (od : d.Ok) (hS0 : Sep G W Rs w) : Ret Tryz.prog 46 [.agg (d.cells dd0 dd1).toArray] w (fun r w' => ∃ (b : Bool), r = (.bool b : Value) ∧ (b = false → FewD d ∧ d.projs.length ≤ 8) ∧ Sep G W Rs w') := by
 let bj := ((d.types.length : Nat) : Int)
 have hdd0s : _ * 24 ≤ _ := hdd0.small
 have hdd1s : _ * 40 ≤ _ := hdd1.small
 refine zi (args := [.agg (d.cells dd0 dd1).toArray]) Tryz.func46 rfl rfl ?_
 refine za (R0 fun _ => st (zH (v := .agg (d.cells dd0 dd1).toArray) rfl ?_))
 intro w3 b2 be
 have H := hS0.new be
 refine st (aS (.bool false) (zd (za (za (zv kr (st (yC rfl (st (lD dd0 mT rfl (zb (H.b0) rfl) (st (zL (n := d.types.length) nT rfl hdd0.sl (st (zN (k := .i64) (a := bj) (b := 0) rfl rfl (st (mV (.bool (decide (bj = 0))) (stc (V := Ix b2 0) rfl rfl (fun bf => ?_) ?_))))))))))))))))
 have hl6 := fD bf
 exact yC rfl ⟨rfl, rfl⟩
 refine stc (V := dd0) rfl rfl (fun aI => ?_) ?_
 have hl8 := fD aI
 exact lD dd0 mT (if_pos aI) (zb (H.b0) rfl) ⟨rfl, rfl⟩
 refine stc (V := Iw d.types.length) rfl rfl (fun aJ => ?_) ?_
 have hl10 := fD aJ
 exact zL (n := d.types.length) nT (if_pos aJ) hdd0.sl ⟨rfl, rfl⟩
 refine stc (V := .bool (decide (8 < bj))) rfl rfl (fun R => ?_) ?_
 have hl12 := fD R
 exact yM (k := .i64) (a := bj) (b := 8) (if_pos R) rfl ⟨rfl, rfl⟩
 refine st (zo (b := decide (bj = 0)) (b' := decide (8 < bj)) rfl (fun hbp => (if_pos hbp)) (st (mV (.bool ((decide (bj = 0)) || (decide (8 < bj)))) (stc (V := Ix b2 1) rfl rfl (fun aL => ?_) ?_))))
 have aM := aL
 try simp only [ze] at aM
 exact Xs rfl ⟨rfl, rfl⟩
 refine stc (V := dd1) rfl rfl (fun S => ?_) ?_
 have aN := S
 try simp only [ze] at aN
 exact lD dd1 nR (if_pos S) (zb (H.b0) rfl) ⟨rfl, rfl⟩
 refine stc (V := Iw d.projs.length) rfl rfl (fun T => ?_) ?_
 have aO := T
 try simp only [ze] at aO
 exact zL (n := d.projs.length) oR (if_pos T) hdd1.sl ⟨rfl, rfl⟩
 refine stc (V := .bool (decide (8 < ((d.projs.length : Nat) : Int)))) rfl rfl (fun U => ?_) ?_
 have aP := U
 try simp only [ze] at aP
 exact yM (k := .i64) (a := ((d.projs.length : Nat) : Int)) (b := 8) (if_pos U) rfl ⟨rfl, rfl⟩
 refine st (zo (b := (decide (bj = 0)) || (decide (8 < bj))) (b' := decide (8 < ((d.projs.length : Nat) : Int))) rfl (fun hbp => (if_pos hbp)) (zd ?_))
 cases X : ((decide (((d.types.length : Nat) : Int) = 0)) || (decide (8 < ((d.types.length : Nat) : Int)))) || (decide (8 < ((d.projs.length : Nat) : Int)))
 try simp only [ze] at X
 refine zg rfl (zl (za (za (R0 fun _ => st (aS (Iv 0) (zd (zw (yh (fun mq σ wq => ∃ (k : Nat) (ρ : Env), mq = d.types.length - k ∧ σ = ye ρ [(1, Ix b2 0), (3, Iw k)] ∧ (k ≤ d.types.length) ∧ (∀ i, i < k → FewT (d.types.getD i default)) ∧ Sep G W ((Blk b2 (d.cells dd0 dd1).toArray 25) :: Rs) wq) ⟨0, _, rfl, sSf, Nat.zero_le _, (fun i h => absurd h (Nat.not_lt_zero i)), H⟩ ?_))))))))
 rintro m23 σ24 w22 ⟨k, ρl1, rfl, rfl, hkk, hm, m⟩
 let bl := (d.types.getD k default).fields
 let bi := ((((d.types.getD k default).fields).length : Nat) : Int)
 let bg := zP W (sb dd0) (so dd0 + k * 1 + 0)
 refine za (za (R0 fun _ => st (mV (Iw k) (st (yC rfl (st (lD dd0 mT rfl (zb (m.b0) rfl) (st (zL (n := d.types.length) nT rfl hdd0.sl (st (zF (k := .i64) (a := ((k : Nat) : Int)) (b := bj) rfl rfl (zd ?_))))))))))))
 cases x : decide (((k : Nat) : Int) < ((d.types.length : Nat) : Int))
 have x := fD x
 refine zg rfl (yi (yb (za (R0 fun _ => st (aS (.bool false) (zd (zk (zG qR (show _ = (.bool false : Value) from rfl) ?_))))))))
 refine ⟨false, rfl, ?_, (m.s1_)⟩
 intro I
 exact ⟨⟨by omega, fun i hi => hm i om⟩, by omega⟩
 have x := tD x
 refine zh rfl (zl (za (zw (za (R0 fun _ => st (yC rfl (st (lD dd0 mT rfl (zb (m.b0) rfl) (st (mV (Iw k) ?_))))))))))
 have aR : k < d.types.length := bo
 refine st (zn (k := 1) (i := k) nT qT rfl hdd0.sl rfl aR (st (yZ rfl ?_)))
 have Y : k < d.types.length := bo
 obtain ⟨al, c, hoke29⟩ := hdd0.typD Y
 have hsm31 : ((d.types.getD k default).fields).length * 48 ≤ 140737488355328 := c.small
 have am := m.cells al (hdd0.foot (ne_of_lt Y))
 refine st (lD bg rT rfl (am.get (j := 0) rfl) (st (aS bg (zd (za (za (zv kr (st (mV bg (st (zL (n := bl.length) oT rfl c.sl (st (zN (k := .i64) (a := bi) (b := 0) rfl rfl (st (mV (.bool (decide (bi = 0))) (stc (V := bg) rfl rfl (fun aT => ?_) ?_))))))))))))))))
 have hl34 := fD aT
 exact mV bg ⟨rfl, rfl⟩
 refine stc (V := Iw (bl.length)) rfl rfl (fun Z => ?_) ?_
 have hl36 := fD Z
 exact zL (n := bl.length) oT (if_pos Z) c.sl ⟨rfl, rfl⟩
 refine stc (V := .bool (decide (8 < bi))) rfl rfl (fun aa => ?_) ?_
 have hl38 := fD aa
 exact yM (k := .i64) (a := bi) (b := 8) (if_pos aa) rfl ⟨rfl, rfl⟩
 refine st (zo (b := decide (bi = 0)) (b' := decide (8 < bi)) rfl (fun hbp => (if_pos hbp)) (zd ?_))
 cases ab : (decide (((((d.types.getD k default).fields).length : Nat) : Int) = 0)) || (decide (8 < ((((d.types.getD k default).fields).length : Nat) : Int)))
 try simp only [ze] at ab
 refine zg rfl (zl (za (R0 fun _ => st (aS (Iv 0) (zd (zw (yh (fun mq σ wq => ∃ (j : Nat) (ρ : Env), mq = (d.types.getD k default).fields.length - j ∧ σ = ye ρ [(1, Ix b2 0), (3, Iw k), (4, (zP W (sb dd0) (so dd0 + k * 1 + 0))), (5, Iw j)] ∧ (j ≤ (d.types.getD k default).fields.length) ∧ (∀ i, i < j → zaP ((d.types.getD k default).fields.getD i default)) ∧ Sep G W ((Blk b2 (d.cells dd0 dd1).toArray 25) :: Rs) wq) ⟨0, _, rfl, sSf, Nat.zero_le _, (fun i h => absurd h (Nat.not_lt_zero i)), m⟩ ?_)))))))
 rintro m41 σ42 w40 ⟨j, ρl2, rfl, rfl, hkj, aK, e⟩
 let bk := zP W (sb bg) (so bg + j * 4 + 3)
 let aQ := ((d.types.getD k default).fields).getD j default
 let bh := (((aQ.moves).length : Nat) : Int)
 let bm := (decide (bh = 0)) || (decide (16 < bh))
 refine za (za (R0 fun _ => st (mV (Iw j) (st (mV bg (st (zL (n := bl.length) oT rfl c.sl (st (zF (k := .i64) (a := ((j : Nat) : Int)) (b := bi) rfl rfl (zd ?_))))))))))
 cases y : decide (((j : Nat) : Int) < ((((d.types.getD k default).fields).length : Nat) : Int))
 have y := fD y
 refine zg rfl (yi (yb (R0 fun _ => st (mV (Iw k) ?_))))
 have aU : InR ((k + 1 : Nat) : Int) := bo
 refine st (zV (r := ((k + 1 : Nat) : Int)) (k := .i64) (a := ((k : Nat) : Int)) (b := 1) rfl rfl (by rw [show (((k : Nat) : Int) + 1 : Int) = ((k + 1 : Nat) : Int) from bo]; exact zJ aU) (st (aS (Iw (k + 1)) (zd ?_))))
 exact ⟨_, by omega, k + 1, _, rfl, sSf, by omega, (yU hm ⟨by omega, fun j9 I => aK j9 om⟩), e⟩
 have y := tD y
 refine zh rfl (zl (za (zw (za (zv kr (st (mV bg (st (mV (Iw j) ?_)))))))))
 have aV : j < ((d.types.getD k default).fields).length := bo
 refine st (zn (k := 4) (i := j) oT lT rfl c.sl rfl aV (st (xr rfl ?_)))
 have o : j < ((d.types.getD k default).fields).length := bo
 let bn := c.foot (ne_of_lt o)
 obtain ⟨l, f, hoke47⟩ := c.fldD o
 have hsm49 : ((((d.types.getD k default).fields).getD j default).moves).length * 32 ≤ 140737488355328 := f.small
 have an := e.cells l bn
 refine st (lD (Iv (aQ.kind)) kT rfl (an.get (j := 0) rfl) (st (zN (k := .i64) (a := aQ.kind) (b := 4) rfl rfl (st (mV (.bool (decide ((aQ.kind) = 4))) (stc (V := bg) rfl rfl (fun aW => ?_) ?_))))))
 have hl52 := tD aW
 exact mV bg ⟨rfl, rfl⟩
 refine stc (V := Iw j) rfl rfl (fun aX => ?_) ?_
 have hl54 := tD aX
 exact mV (Iw j) ⟨rfl, rfl⟩
 refine stc (V := Ix (sb bg) (so bg + j * 4)) rfl rfl (fun J => ?_) ?_
 have hl56 := tD J
 have aY : j < ((d.types.getD k default).fields).length := bo
 exact zn (k := 4) (i := j) oT lT (if_pos J) c.sl (if_pos J) aY ⟨rfl, rfl⟩
 refine stc (V := Ix (sb bg) (so bg + j * 4 + 3)) rfl rfl (fun ac => ?_) ?_
 have hl59 := tD ac
 exact yF (if_pos ac) ⟨rfl, rfl⟩
 refine stc (V := bk) rfl rfl (fun ad => ?_) ?_
 have hl61 := tD ad
 have ao := e.cells l bn
 exact lD bk sT (if_pos ad) (ao.get (j := 3) rfl) ⟨rfl, rfl⟩
 refine stc (V := Iw ((aQ.moves).length)) rfl rfl (fun ae => ?_) ?_
 have hl65 := tD ae
 exact zL (n := (aQ.moves).length) pT (if_pos ae) f.sl ⟨rfl, rfl⟩
 refine stc (V := .bool (decide (bh = 0))) rfl rfl (fun af => ?_) ?_
 have hl67 := tD af
 exact zN (k := .i64) (a := bh) (b := 0) (if_pos af) rfl ⟨rfl, rfl⟩
 refine stc (V := .bool (decide (bh = 0))) rfl rfl (fun ag => ?_) ?_
 have hl69 := tD ag
 exact ya (v := .bool (decide (bh = 0))) (if_pos ag) ⟨rfl, rfl⟩
 refine yO (V := bg) rfl rfl (fun ah => ?_) ?_
 have hl71 := tD ah.1
 have hl72 := fD ah.2
 exact mV bg ⟨rfl, rfl⟩
 refine yO (V := Iw j) rfl rfl (fun ai => ?_) ?_
 have hl74 := tD ai.1
 have hl75 := fD ai.2
 exact mV (Iw j) ⟨rfl, rfl⟩
 refine yO (V := Ix (sb bg) (so bg + j * 4)) rfl rfl (fun p => ?_) ?_
 have hl77 := tD p.1
 have hl78 := fD p.2
 have aZ : j < ((d.types.getD k default).fields).length := bo
 exact zn (k := 4) (i := j) oT lT (if_pos ⟨p.1, p.2⟩) c.sl (if_pos ⟨p.1, p.2⟩) aZ ⟨rfl, rfl⟩
 refine yO (V := Ix (sb bg) (so bg + j * 4 + 3)) rfl rfl (fun z => ?_) ?_
 have hl81 := tD z.1
 have hl82 := fD z.2
 exact yF (if_pos ⟨z.1, z.2⟩) ⟨rfl, rfl⟩
 refine yO (V := bk) rfl rfl (fun A => ?_) ?_
 have hl84 := tD A.1
 have hl85 := fD A.2
 have ap := e.cells l bn
 exact lD bk sT (if_pos ⟨A.1, A.2⟩) (ap.get (j := 3) rfl) ⟨rfl, rfl⟩
 refine yO (V := Iw ((aQ.moves).length)) rfl rfl (fun B => ?_) ?_
 have hl89 := tD B.1
 have hl90 := fD B.2
 exact zL (n := (aQ.moves).length) pT (if_pos ⟨B.1, B.2⟩) f.sl ⟨rfl, rfl⟩
 refine yO (V := .bool (decide (16 < bh))) rfl rfl (fun C => ?_) ?_
 have hl92 := tD C.1
 have hl93 := fD C.2
 exact yM (k := .i64) (a := bh) (b := 16) (if_pos ⟨C.1, C.2⟩) rfl ⟨rfl, rfl⟩
 refine stc (V := .bool bm) rfl rfl (fun K => ?_) ?_
 have hl95 := tD K
 exact zo (b := decide (bh = 0)) (b' := decide (16 < bh)) (if_pos K) (fun hbp => (if_pos ⟨K, hbp⟩)) ⟨rfl, rfl⟩
 refine st (zy (b := decide ((aQ.kind) = 4)) (b' := (decide (bh = 0)) || (decide (16 < bh))) rfl (fun hbp => (if_pos hbp)) (st (mV (.bool ((decide ((aQ.kind) = 4)) && bm)) (stc (V := bg) rfl rfl (fun ba => ?_) ?_))))
 have bb := ba
 try simp only [ze] at bb
 exact mV bg ⟨rfl, rfl⟩
 refine stc (V := Iw j) rfl rfl (fun bc => ?_) ?_
 have bd := bc
 try simp only [ze] at bd
 exact mV (Iw j) ⟨rfl, rfl⟩
 refine stc (V := Ix (sb bg) (so bg + j * 4)) rfl rfl (fun D => ?_) ?_
 have aq := D
 try simp only [ze] at aq
 have ar : j < ((d.types.getD k default).fields).length := bo
 exact zn (k := 4) (i := j) oT lT (if_pos D) c.sl (if_pos D) ar ⟨rfl, rfl⟩
 refine stc (V := Ix (sb bg) (so bg + j * 4)) rfl rfl (fun L => ?_) ?_
 have au := L
 try simp only [ze] at au
 exact xr (if_pos L) ⟨rfl, rfl⟩
 refine stc (V := Iv (aQ.kind)) rfl rfl (fun M => ?_) ?_
 have av := M
 try simp only [ze] at av
 have aj := e.cells l bn
 exact lD (Iv (aQ.kind)) kT (if_pos M) (aj.get (j := 0) rfl) ⟨rfl, rfl⟩
 refine stc (V := .bool (!decide ((aQ.kind) = 4))) rfl rfl (fun N => ?_) ?_
 have aw := N
 try simp only [ze] at aw
 exact yr (k := .i64) (a := aQ.kind) (b := 4) (if_pos N) rfl ⟨rfl, rfl⟩
 refine stc (V := .bool (!decide ((aQ.kind) = 4))) rfl rfl (fun O => ?_) ?_
 have ax := O
 try simp only [ze] at ax
 exact ya (v := .bool (!decide ((aQ.kind) = 4))) (if_pos O) ⟨rfl, rfl⟩
 refine yO (V := bg) rfl rfl (fun P => ?_) ?_
 have ay := P.1
 try simp only [ze] at ay
 have hl115 := zC P.2
 exact mV bg ⟨rfl, rfl⟩
 refine yO (V := Iw j) rfl rfl (fun Q => ?_) ?_
 have az := Q.1
 try simp only [ze] at az
 have hl118 := zC Q.2
 exact mV (Iw j) ⟨rfl, rfl⟩
 refine yO (V := Ix (sb bg) (so bg + j * 4)) rfl rfl (fun g => ?_) ?_
 have aA := g.1
 try simp only [ze] at aA
 have hl121 := zC g.2
 have aB : j < ((d.types.getD k default).fields).length := bo
 exact zn (k := 4) (i := j) oT lT (if_pos ⟨g.1, g.2⟩) c.sl (if_pos ⟨g.1, g.2⟩) aB ⟨rfl, rfl⟩
 refine yO (V := Ix (sb bg) (so bg + j * 4 + 3)) rfl rfl (fun q => ?_) ?_
 have aC := q.1
 try simp only [ze] at aC
 have hl125 := zC q.2
 exact yF (if_pos ⟨q.1, q.2⟩) ⟨rfl, rfl⟩
 refine yO (V := bk) rfl rfl (fun s => ?_) ?_
 have aD := s.1
 try simp only [ze] at aD
 have hl128 := zC s.2
 have ak := e.cells l bn
 exact lD bk sT (if_pos ⟨s.1, s.2⟩) (ak.get (j := 3) rfl) ⟨rfl, rfl⟩
 refine yO (V := Iw ((aQ.moves).length)) rfl rfl (fun t => ?_) ?_
 have aE := t.1
 try simp only [ze] at aE
 have hl133 := zC t.2
 exact zL (n := (aQ.moves).length) pT (if_pos ⟨t.1, t.2⟩) f.sl ⟨rfl, rfl⟩
 refine yO (V := .bool (!decide (bh = 0))) rfl rfl (fun u => ?_) ?_
 have aF := u.1
 try simp only [ze] at aF
 have hl136 := zC u.2
 exact yr (k := .i64) (a := bh) (b := 0) (if_pos ⟨u.1, u.2⟩) rfl ⟨rfl, rfl⟩
 refine stc (V := .bool ((!decide ((aQ.kind) = 4)) && (!decide (bh = 0)))) rfl rfl (fun E => ?_) ?_
 have aG := E
 try simp only [ze] at aG
 exact zy (b := !decide ((aQ.kind) = 4)) (b' := !decide (bh = 0)) (if_pos E) (fun hbp => (if_pos ⟨E, hbp⟩)) ⟨rfl, rfl⟩
 refine st (zo (b := (decide ((aQ.kind) = 4)) && bm) (b' := (!decide ((aQ.kind) = 4)) && (!decide (bh = 0))) rfl (fun hbp => (if_pos hbp)) (zd ?_))
 cases F : ((decide (((((d.types.getD k default).fields).getD j default).kind) = 4)) && ((decide (((((((d.types.getD k default).fields).getD j default).moves).length : Nat) : Int) = 0)) || (decide (16 < ((((((d.types.getD k default).fields).getD j default).moves).length : Nat) : Int))))) || ((!decide (((((d.types.getD k default).fields).getD j default).kind) = 4)) && (!decide (((((((d.types.getD k default).fields).getD j default).moves).length : Nat) : Int) = 0)))
 try simp only [ze] at F
 refine zg rfl (zl (R0 fun _ => st (mV (Iw j) ?_)))
 have aH : InR ((j + 1 : Nat) : Int) := bo
 refine st (zV (r := ((j + 1 : Nat) : Int)) (k := .i64) (a := ((j : Nat) : Int)) (b := 1) rfl rfl (by rw [show (((j : Nat) : Int) + 1 : Int) = ((j + 1 : Nat) : Int) from bo]; exact zJ aH) (st (aS (Iw (j + 1)) (zd ?_))))
 exact ⟨_, by omega, j + 1, _, rfl, sSf, by omega, (yU aK (by unfold zaP; have I := F; omega)), e⟩
 try simp only [ze] at F
 refine zh rfl (za (R0 fun _ => st (aS (.bool true) (zd (zk (zG qR (show _ = (.bool true : Value) from rfl) ?_))))))
 refine ⟨true, rfl, ?_, (e.s1_)⟩
 intro I
 exact absurd I dc
 try simp only [ze] at ab
 refine zh rfl (za (R0 fun _ => st (aS (.bool true) (zd (zk (zG qR (show _ = (.bool true : Value) from rfl) ?_))))))
 refine ⟨true, rfl, ?_, (m.s1_)⟩
 intro I
 exact absurd I dc
 try simp only [ze] at X
 refine zh rfl (za (R0 fun _ => st (aS (.bool true) (zd (zk (zG qR (show _ = (.bool true : Value) from rfl) ?_))))))
 refine ⟨true, rfl, ?_, (H.s1_)⟩
 intro I
 exact absurd I dc

theorem D_one {G : Nat → Prop} {W w : World} {Rs : List HP} {t : Typ} {dt0 : Value} (hdt0 : RdS W G dt0 t.fields) (ot : t.Ok) {f : Fld} {df0 : Value} (hdf0 : RdS W G df0 f.moves) (of : f.Ok) (hS0 : Sep G W Rs w) : Ret Tryz.prog 47 [.agg (t.cells dt0).toArray, .agg (f.cells df0).toArray] w (fun r w' => ∃ (e : Int), r = (.int .i64 (e) : Value) ∧ (InR e) ∧ (e = 0 → Vk t f) ∧ Sep G W Rs w') := by
 let cn := decide (f.policy = 1)
 let ck := decide (f.policy = 3)
 let cj := decide (f.policy = 2)
 let cm := cj && (!decide (f.kind = 1))
 let ci := ((decide (f.policy = 1)) || ((decide (f.policy = 2)) && (!decide (f.kind = 1)))) || ((decide (f.policy = 3)) && (decide (f.kind = 2)))
 have hdt0s : _ * 48 ≤ _ := hdt0.small
 have hdf0s : _ * 32 ≤ _ := hdf0.small
 refine zi (args := [.agg (t.cells dt0).toArray, .agg (f.cells df0).toArray]) Tryz.func47 rfl rfl ?_
 refine za (R0 fun _ => st (zH (v := .agg (t.cells dt0).toArray) rfl ?_))
 intro w3 b2 cd
 let co := Blk b2 (t.cells dt0).toArray 53
 refine st (zH (v := .agg (f.cells df0).toArray) rfl ?_)
 intro w7 l ce
 let cp := Blk l (f.cells df0).toArray 110
 have g := (hS0.new cd).new ce
 refine st (aS (Iv 0) (zd (za (za (zv kr (st (xr rfl (st (lD (Iv (f.kind)) kT rfl (zb (g.b0) rfl) (st (zF (k := .i64) (a := f.kind) (b := 1) rfl rfl (st (mV (.bool (decide (f.kind < 1))) (stc (V := Ix l 0) rfl rfl (fun cf => ?_) ?_))))))))))))))
 have hl10 := fD cf
 exact xr rfl ⟨rfl, rfl⟩
 refine stc (V := Iv (f.kind)) rfl rfl (fun ay => ?_) ?_
 have hl12 := fD ay
 exact lD (Iv (f.kind)) kT (if_pos ay) (zb (g.b0) rfl) ⟨rfl, rfl⟩
 refine stc (V := .bool (decide (4 < f.kind))) rfl rfl (fun az => ?_) ?_
 have hl14 := fD az
 exact yM (k := .i64) (a := f.kind) (b := 4) (if_pos az) rfl ⟨rfl, rfl⟩
 refine st (zo (b := decide (f.kind < 1)) (b' := decide (4 < f.kind)) rfl (fun hbp => (if_pos hbp)) (zd ?_))
 cases aA : (decide (f.kind < 1)) || (decide (4 < f.kind))
 try simp only [ze] at aA
 refine zg rfl (zl (za (zv kr (st (ZX rfl (st (lD (Iv (f.policy)) kT rfl (zb (g.b0) rfl) (st (zN (k := .i64) (a := f.policy) (b := 1) rfl rfl (st (mV (.bool cn) (stc (V := Ix l 1) rfl rfl (fun bI => ?_) ?_))))))))))))
 have hl17 := fD bI
 exact ZX rfl ⟨rfl, rfl⟩
 refine stc (V := Iv (f.policy)) rfl rfl (fun aB => ?_) ?_
 have hl19 := fD aB
 exact lD (Iv (f.policy)) kT (if_pos aB) (zb (g.b0) rfl) ⟨rfl, rfl⟩
 refine stc (V := .bool cj) rfl rfl (fun aC => ?_) ?_
 have hl21 := fD aC
 exact zN (k := .i64) (a := f.policy) (b := 2) (if_pos aC) rfl ⟨rfl, rfl⟩
 refine stc (V := .bool cj) rfl rfl (fun aD => ?_) ?_
 have hl23 := fD aD
 exact ya (v := .bool cj) (if_pos aD) ⟨rfl, rfl⟩
 refine yO (V := Ix l 0) rfl rfl (fun aE => ?_) ?_
 have hl25 := fD aE.1
 have hl26 := tD aE.2
 exact xr rfl ⟨rfl, rfl⟩
 refine yO (V := Iv (f.kind)) rfl rfl (fun F => ?_) ?_
 have hl28 := fD F.1
 have hl29 := tD F.2
 exact lD (Iv (f.kind)) kT (if_pos ⟨F.1, F.2⟩) (zb (g.b0) rfl) ⟨rfl, rfl⟩
 refine yO (V := .bool (!decide (f.kind = 1))) rfl rfl (fun H => ?_) ?_
 have hl31 := fD H.1
 have hl32 := tD H.2
 exact yr (k := .i64) (a := f.kind) (b := 1) (if_pos ⟨H.1, H.2⟩) rfl ⟨rfl, rfl⟩
 refine stc (V := .bool cm) rfl rfl (fun T => ?_) ?_
 have hl34 := fD T
 exact zy (b := decide (f.policy = 2)) (b' := !decide (f.kind = 1)) (if_pos T) (fun hbp => (if_pos ⟨T, hbp⟩)) ⟨rfl, rfl⟩
 refine st (zo (b := decide (f.policy = 1)) (b' := cj && (!decide (f.kind = 1))) rfl (fun hbp => (if_pos hbp)) (st (mV (.bool (cn || cm)) (stc (V := Ix l 1) rfl rfl (fun bJ => ?_) ?_))))
 have bK := bJ
 try simp only [ze] at bK
 exact ZX rfl ⟨rfl, rfl⟩
 refine stc (V := Iv (f.policy)) rfl rfl (fun aF => ?_) ?_
 have bL := aF
 try simp only [ze] at bL
 exact lD (Iv (f.policy)) kT (if_pos aF) (zb (g.b0) rfl) ⟨rfl, rfl⟩
 refine stc (V := .bool ck) rfl rfl (fun aG => ?_) ?_
 have bM := aG
 try simp only [ze] at bM
 exact zN (k := .i64) (a := f.policy) (b := 3) (if_pos aG) rfl ⟨rfl, rfl⟩
 refine stc (V := .bool ck) rfl rfl (fun aH => ?_) ?_
 have bN := aH
 try simp only [ze] at bN
 exact ya (v := .bool ck) (if_pos aH) ⟨rfl, rfl⟩
 refine yO (V := Ix l 0) rfl rfl (fun aI => ?_) ?_
 have bO := aI.1
 try simp only [ze] at bO
 have hl45 := tD aI.2
 exact xr rfl ⟨rfl, rfl⟩
 refine yO (V := Iv (f.kind)) rfl rfl (fun I => ?_) ?_
 have bP := I.1
 try simp only [ze] at bP
 have hl48 := tD I.2
 exact lD (Iv (f.kind)) kT (if_pos ⟨I.1, I.2⟩) (zb (g.b0) rfl) ⟨rfl, rfl⟩
 refine yO (V := .bool (decide (f.kind = 2))) rfl rfl (fun J => ?_) ?_
 have bQ := J.1
 try simp only [ze] at bQ
 have hl51 := tD J.2
 exact zN (k := .i64) (a := f.kind) (b := 2) (if_pos ⟨J.1, J.2⟩) rfl ⟨rfl, rfl⟩
 refine stc (V := .bool (ck && (decide (f.kind = 2)))) rfl rfl (fun U => ?_) ?_
 have bR := U
 try simp only [ze] at bR
 exact zy (b := decide (f.policy = 3)) (b' := decide (f.kind = 2)) (if_pos U) (fun hbp => (if_pos ⟨U, hbp⟩)) ⟨rfl, rfl⟩
 refine st (zo (b := cn || cm) (b' := ck && (decide (f.kind = 2))) rfl (fun hbp => (if_pos hbp)) (st (aS (.bool ci) (zd (za (za (zv kr (st (mV (.bool ci) (st (yH (a := (cn || cm) || (ck && (decide (f.kind = 2)))) rfl (st (mV (.bool (!ci)) (stc (V := Ix l 2) rfl rfl (fun bS => ?_) ?_))))))))))))))
 have bT := bS
 try simp only [ze] at bT
 exact WL rfl ⟨rfl, rfl⟩
 refine stc (V := .bool (f.floor)) rfl rfl (fun aJ => ?_) ?_
 have bU := aJ
 try simp only [ze] at bU
 exact lD (.bool (f.floor)) Tryz.isAgg4 (if_pos aJ) (zb (g.b0) rfl) ⟨rfl, rfl⟩
 refine stc (V := .bool (f.floor)) rfl rfl (fun aK => ?_) ?_
 have bV := aK
 try simp only [ze] at bV
 exact ya (v := .bool (f.floor)) (if_pos aK) ⟨rfl, rfl⟩
 refine yO (V := Ix l 0) rfl rfl (fun aL => ?_) ?_
 have bW := aL.1
 try simp only [ze] at bW
 have hl62 := aL.2
 exact xr rfl ⟨rfl, rfl⟩
 refine yO (V := Iv (f.kind)) rfl rfl (fun K => ?_) ?_
 have bX := K.1
 try simp only [ze] at bX
 have hl65 := K.2
 exact lD (Iv (f.kind)) kT (if_pos ⟨K.1, K.2⟩) (zb (g.b0) rfl) ⟨rfl, rfl⟩
 refine yO (V := .bool (!decide (f.kind = 1))) rfl rfl (fun L => ?_) ?_
 have bY := L.1
 try simp only [ze] at bY
 have hl68 := L.2
 exact yr (k := .i64) (a := f.kind) (b := 1) (if_pos ⟨L.1, L.2⟩) rfl ⟨rfl, rfl⟩
 refine stc (V := .bool (f.floor && (!decide (f.kind = 1)))) rfl rfl (fun X => ?_) ?_
 have bZ := X
 try simp only [ze] at bZ
 exact zy (b := f.floor) (b' := !decide (f.kind = 1)) (if_pos X) (fun hbp => (if_pos ⟨X, hbp⟩)) ⟨rfl, rfl⟩
 refine st (zo (b := !ci) (b' := f.floor && (!decide (f.kind = 1))) rfl (fun hbp => (if_pos hbp)) (zd ?_))
 cases Y : (!(((decide (f.policy = 1)) || ((decide (f.policy = 2)) && (!decide (f.kind = 1)))) || ((decide (f.policy = 3)) && (decide (f.kind = 2))))) || (f.floor && (!decide (f.kind = 1)))
 try simp only [ze] at Y
 have hfl : f.floor = true → f.kind = 1 := by
  intro D
  rcases Y.2 with h7 | h7
  · rw [D] at h7; cases h7
  · exact h7
 refine zg rfl (zl (za (za (R0 fun _ => st (aS (Iv 0) (zd (zw (yh (fun mq σ Z => ∃ (k : Nat) (ρ : Env), mq = f.moves.length - k ∧ σ = ye ρ [(2, Ix b2 0), (3, Ix l 0), (6, Iw k)] ∧ (k ≤ f.moves.length) ∧ Sep G W ((Blk l (f.cells df0).toArray 110) :: (Blk b2 (t.cells dt0).toArray 53) :: Rs) Z) ⟨0, _, rfl, sSf, Nat.zero_le _, g⟩ ?_))))))))
 rintro m73 σ74 w72 ⟨k, ρl1, rfl, rfl, hkk, E⟩
 let ch := f.moves.getD k default
 let cl := decide ((ch.need) = (-1))
 refine za (za (R0 fun _ => st (mV (Iw k) (st (yF rfl (st (lD df0 sT rfl (zb (E.b0) rfl) (st (zL (n := f.moves.length) pT rfl hdf0.sl (st (zF (k := .i64) (a := ((k : Nat) : Int)) (b := ((f.moves.length : Nat) : Int)) rfl rfl (zd ?_))))))))))))
 cases M : decide (((k : Nat) : Int) < ((f.moves.length : Nat) : Int))
 have M := fD M
 refine zg rfl (yi (yb (za (za (R0 fun _ => st (aS (Iv 0) (zd (zw (yh (fun mq σ Z => ∃ (j : Nat) (ρ : Env), mq = f.moves.length - j ∧ σ = ye ρ [(2, Ix b2 0), (3, Ix l 0), (8, Iw j)] ∧ (j ≤ f.moves.length) ∧ (∀ i, i < j → (f.moves.getD i default).need = -1 ∨ yz t (f.moves.getD i default).need = 1) ∧ Sep G W ((Blk l (f.cells df0).toArray 110) :: (Blk b2 (t.cells dt0).toArray 53) :: Rs) Z) ⟨0, _, rfl, sSf, Nat.zero_le _, (fun i h => absurd h (Nat.not_lt_zero i)), E⟩ ?_)))))))))
 rintro m78 σ79 w77 ⟨j, ρl2, rfl, rfl, hkj, hm, aa⟩
 let aU := (f.moves.getD j default).need
 refine za (za (R0 fun _ => st (mV (Iw j) (st (yF rfl (st (lD df0 sT rfl (zb (aa.b0) rfl) (st (zL (n := f.moves.length) pT rfl hdf0.sl (st (zF (k := .i64) (a := ((j : Nat) : Int)) (b := ((f.moves.length : Nat) : Int)) rfl rfl (zd ?_))))))))))))
 cases N : decide (((j : Nat) : Int) < ((f.moves.length : Nat) : Int))
 have N := fD N
 refine zg rfl (yi (yb (za (R0 fun _ => st (aS (Iv 0) (zd (zk (zG lR (show _ = (Iv 0 : Value) from rfl) ?_))))))))
 refine ⟨0, rfl, ?_, ?_, (aa.s2_)⟩
 decide
 intro D
 exact ⟨by omega, hfl, fun i hi => hm i om⟩
 have N := tD N
 refine zh rfl (zl (za (zw (za ?_))))
 refine WD4 ((fun TT bH => WF [fun vals Z => Sep G W (bH :: TT) Z, fun vals Z => (vals 15 = (if (!decide (aU = (-1))) = true then (Iv ((yz t aU)) : Value) else undef)) ∧ Sep G W (bH :: TT) Z]) (co :: Rs) cp) (AF [Vl 0 (Ix l 3), Vl 1 (df0), Vl 2 (Iw j), Vl 3 (Ix (sb df0) (so df0 + j * 4)), Vl 4 (Ix (sb df0) (so df0 + j * 4 + 2)), Vl 5 (Iv aU), Vl 6 (.bool (!decide (aU = (-1)))), Vl 7 (.bool (!decide (aU = (-1)))), Vl 8 (if (!decide (aU = (-1))) = true then .agg (t.cells dt0).toArray else undef), Vl 9 (if (!decide (aU = (-1))) = true then Ix l 3 else undef), Vl 10 (if (!decide (aU = (-1))) = true then df0 else undef), Vl 11 (if (!decide (aU = (-1))) = true then Iw j else undef), Vl 12 (if (!decide (aU = (-1))) = true then Ix (sb df0) (so df0 + j * 4) else undef), Vl 13 (if (!decide (aU = (-1))) = true then Ix (sb df0) (so df0 + j * 4 + 2) else undef), Vl 14 (if (!decide (aU = (-1))) = true then Iv aU else undef), fun _ => True, Vl 16 (if (!decide (aU = (-1))) = true then .bool (!decide ((yz t aU) = 1)) else undef), Vl 17 (.bool ((!decide (aU = (-1))) && (!decide ((yz t aU) = 1))))]) [[], [0], [], [0, 1, 2], (rg 4), (rg 5), (rg 6), (rg 7), (rg 8), (rg 8), [0, 1, 2, 3, 4, 5, 6, 7, 9], (rg 8), [0, 1, 2, 3, 4, 5, 6, 7, 9, 10, 11], [0, 1, 2, 3, 4, 5, 6, 7, 9, 10, 11, 12], [0, 1, 2, 3, 4, 5, 6, 7, 9, 10, 11, 12, 13], (rg 15), (rg 16), (rg 17)] [15] [(0, 0), (0, 0), (0, 0), (0, 0), (0, 0), (0, 0), (0, 0), (0, 0), (0, 0), (0, 0), (0, 0), (0, 0), (0, 0), (0, 0), (0, 0), (0, 0), (1, 1), (1, 1)] aa ⟨fun _ _ _ _ _ _ _ => obl rfl (yF rfl dR), ob1 0 fun _ _ (aV : Sep _ _ _ _) aW => obl rfl (lD df0 sT (aW 0 dc) (zb (aV.b0) rfl) dR), fun _ _ _ _ _ _ _ => obl rfl (mV (Iw j) dR), ?_, fun _ _ _ _ _ _ aX => obl rfl (Yc (aX 3 dc) dR), ?_, ob1 0 fun _ _ _ aY => obl rfl (yr (k := .i64) (a := (f.moves.getD j default).need) (b := -1) (aY 5 dc) rfl dR), fun _ _ _ _ _ _ aZ => obl rfl (ya (v := .bool (!decide (aU = (-1)))) (aZ 6 dc) dR), ?_, ?_, ?_, ?_, ?_, ?_, ?_, ?_, ?_, fun _ _ _ _ _ _ ac => obl rfl (zy (b := !decide (aU = (-1))) (b' := !decide ((yz t aU) = 1)) (ac 7 dc) (fun hbp => (Eq.trans (ac 16 dc) (if_pos hbp))) dR), trivial⟩ ?_
 refine ob1 0 fun _ _ _ ad => (obl rfl ?_)
 have ba : j < f.moves.length := bo
 exact zn (k := 4) (i := j) pT uT (ad 1 dc) hdf0.sl (ad 2 dc) ba dR
 refine ob1 0 fun _ _ (bb : Sep _ _ _ _) bc => (obl rfl ?_)
 have ae : j < f.moves.length := bo
 obtain ⟨aM, hoke303⟩ := hdf0.mvD ae
 have aN := bb.cells aM (hdf0.foot (ne_of_lt ae))
 exact lD (Iv aU) kT (bc 4 dc) (aN.get (j := 2) rfl) dR
 refine ob1 0 fun _ _ (bd : Sep _ _ _ _) be => (yt rfl rfl (be 7 dc) (fun y => ?_) (fun y => fun c d _ => ⟨trivial, d.trans (if_neg y).symm⟩))
 have hl330 := zC y
 exact zf (k := 1) sR qT rfl rfl (CellsAt.all (bd.b1)) (fun c d _ => ⟨rfl, d.trans (if_pos y).symm⟩)
 refine fun _ _ _ _ _ _ bf => (yt rfl rfl (bf 7 dc) (fun z => ?_) (fun z => fun c d _ => ⟨trivial, d.trans (if_neg z).symm⟩))
 have hl339 := zC z
 exact yF rfl (fun c d _ => ⟨rfl, d.trans (if_pos z).symm⟩)
 refine ob1 0 fun _ _ (bg : Sep _ _ _ _) af => (yt rfl rfl (af 7 dc) (fun q => ?_) (fun q => fun c d _ => ⟨trivial, d.trans (if_neg q).symm⟩))
 have hl350 := zC q
 exact lD df0 sT (Eq.trans (af 9 dc) (if_pos q)) (zb (bg.b0) rfl) (fun c d _ => ⟨rfl, d.trans (if_pos q).symm⟩)
 refine fun _ _ _ _ _ _ bh => (yt rfl rfl (bh 7 dc) (fun A => ?_) (fun A => fun c d _ => ⟨trivial, d.trans (if_neg A).symm⟩))
 have hl359 := zC A
 exact mV (Iw j) (fun c d _ => ⟨rfl, d.trans (if_pos A).symm⟩)
 refine ob1 0 fun _ _ _ O => (yt rfl rfl (O 7 dc) (fun m => ?_) (fun m => fun c d _ => ⟨trivial, d.trans (if_neg m).symm⟩))
 have hl371 := zC m
 have bi : j < f.moves.length := bo
 exact zn (k := 4) (i := j) pT uT (Eq.trans (O 10 dc) (if_pos m)) hdf0.sl (Eq.trans (O 11 dc) (if_pos m)) bi (fun c d _ => ⟨rfl, d.trans (if_pos m).symm⟩)
 refine fun _ _ _ _ _ _ ag => (yt rfl rfl (ag 7 dc) (fun s => ?_) (fun s => fun c d _ => ⟨trivial, d.trans (if_neg s).symm⟩))
 have hl382 := zC s
 exact Yc (Eq.trans (ag 12 dc) (if_pos s)) (fun c d _ => ⟨rfl, d.trans (if_pos s).symm⟩)
 refine ob1 0 fun _ _ (bj : Sep _ _ _ _) ah => (yt rfl rfl (ah 7 dc) (fun u => ?_) (fun u => fun c d _ => ⟨trivial, d.trans (if_neg u).symm⟩))
 have hl393 := zC u
 have ai : j < f.moves.length := bo
 obtain ⟨aO, hoke394⟩ := hdf0.mvD ai
 have aP := bj.cells aO (hdf0.foot (ne_of_lt ai))
 exact lD (Iv aU) kT (Eq.trans (ah 13 dc) (if_pos u)) (aP.get (j := 2) rfl) (fun c d _ => ⟨rfl, d.trans (if_pos u).symm⟩)
 refine ob1 0 fun vals ca (P : Sep _ _ _ _) Q => (yt rfl rfl (Q 7 dc) (fun o => ?_) (fun o c d cg => ?_))
 have hl233 := zC o
 have aj : j < f.moves.length := bo
 obtain ⟨aQ, ax⟩ := hdf0.mvD aj
 have hcw236 := P.cells aQ (hdf0.foot (ne_of_lt aj))
 refine (zB (f := 49) (vals := [.agg (t.cells dt0).toArray, Iv aU]) (cap := []) rfl (yE ⟨(Eq.trans (Q 8 dc) (if_pos o)), (Eq.trans (Q 14 dc) (if_pos o)), trivial⟩) pY (Kw (t := t) (n := (f.moves.getD j default).need) hdt0 ot ax.need P) ?_)
 rintro _ w237 ⟨rfl, bk⟩
 exact fun c d cg => ⟨(And.intro (d.trans (if_pos o).symm) bk), trivial⟩
 refine ⟨?_, trivial⟩
 show (c 15 = (if (!decide (aU = (-1))) = true then (Iv ((yz t aU)) : Value) else undef)) ∧ Sep G W (cp :: co :: Rs) ca
 exact ⟨(d.trans (if_neg o).symm), P⟩
 refine ob1 1 fun _ _ bl bm => ?_
 obtain ⟨ak, hS403⟩ := bl
 refine yt rfl rfl (bm 7 dc) (fun x => ?_) (fun x => fun c d _ => ⟨trivial, d.trans (if_neg x).symm⟩)
 have hl406 := zC x
 exact yr (k := .i64) (a := (yz t aU)) (b := 1) (Eq.trans ak (if_pos x)) rfl (fun c d _ => ⟨rfl, d.trans (if_pos x).symm⟩)
 intro vals w415 bn bp
 obtain ⟨ak, al⟩ := bn
 have cb := bp 17 dc
 refine zT (kv := [(2, Ix b2 0), (3, Ix l 0), (8, Iw j), (81, Iw j), (82, Ix l 3), (83, df0), (84, Iw f.moves.length), (85, .bool true), (105, .bool ((!decide (aU = (-1))) && (!decide ((yz t aU) = 1))))]) ⟨rfl, rfl, rfl, rfl, rfl, rfl, rfl, rfl, (by exact cb), trivial⟩ (fun ρw415 => (zd ?_))
 cases R : (!decide (((f.moves.getD j default).need) = (-1))) && (!decide ((yz t ((f.moves.getD j default).need)) = 1))
 try simp only [ze] at R
 refine zg rfl (zl (R0 fun _ => st (mV (Iw j) ?_)))
 have bq : InR ((j + 1 : Nat) : Int) := bo
 refine st (zV (r := ((j + 1 : Nat) : Int)) (k := .i64) (a := ((j : Nat) : Int)) (b := 1) rfl rfl (by rw [show (((j : Nat) : Int) + 1 : Int) = ((j + 1 : Nat) : Int) from bo]; exact zJ bq) (st (aS (Iw (j + 1)) (zd ?_))))
 exact ⟨_, by omega, j + 1, _, rfl, sSf, by omega, (yU hm (by have D := R; omega)), al⟩
 try simp only [ze] at R
 refine zh rfl (za (R0 fun _ => st (aS (Iv 8) (zd (zk (zG lR (show _ = (Iv 8 : Value) from rfl) ?_))))))
 refine ⟨8, rfl, ?_, ?_, (al.s2_)⟩
 decide
 intro D
 exact absurd D dc
 have M := tD M
 refine zh rfl (zl (za (zw (za (R0 fun _ => st (yF rfl (st (lD df0 sT rfl (zb (E.b0) rfl) (st (mV (Iw k) ?_))))))))))
 have br : k < f.moves.length := bo
 refine st (zn (k := 4) (i := k) pT uT rfl hdf0.sl rfl br ?_)
 have am : k < f.moves.length := bo
 obtain ⟨aR, hoke424⟩ := hdf0.mvD am
 have aT := E.cells aR (hdf0.foot (ne_of_lt am))
 refine st (zf (k := 4) qY uT rfl rfl aT (st (zr tR ?_)))
 intro w429 ab bs
 have an := E.new bs
 refine stn (zp (v := .agg (ch.cells).toArray) (c' := (ch.cells).toArray) uT rfl rfl (an.b0) (zW ⟨rfl, rfl, rfl, rfl, trivial⟩) yqc rfl ?_)
 intro cc bt
 have p := an.pt0 bt
 refine zd (za (zv kr (st (UL rfl (st (lD (Iv (ch.frm)) kT rfl (zb (p.b0) rfl) (st (zF (k := .i64) (a := ch.frm) (b := 0) rfl rfl (st (mV (.bool (decide ((ch.frm) < 0))) (stc (V := Ix ab 1) rfl rfl (fun bu => ?_) ?_)))))))))))
 have hl435 := fD bu
 exact UK rfl ⟨rfl, rfl⟩
 refine stc (V := Iv (ch.to)) rfl rfl (fun ao => ?_) ?_
 have hl437 := fD ao
 exact lD (Iv (ch.to)) kT (if_pos ao) (zb (p.b0) rfl) ⟨rfl, rfl⟩
 refine stc (V := .bool (decide ((ch.to) < 0))) rfl rfl (fun ap => ?_) ?_
 have hl439 := fD ap
 exact zF (k := .i64) (a := ch.to) (b := 0) (if_pos ap) rfl ⟨rfl, rfl⟩
 refine st (zo (b := decide ((ch.frm) < 0)) (b' := decide ((ch.to) < 0)) rfl (fun hbp => (if_pos hbp)) (st (mV (.bool ((decide ((ch.frm) < 0)) || (decide ((ch.to) < 0)))) (stc (V := Ix ab 2) rfl rfl (fun bv => ?_) ?_))))
 have bw := bv
 try simp only [ze] at bw
 exact Yc rfl ⟨rfl, rfl⟩
 refine stc (V := Iv (ch.need)) rfl rfl (fun aq => ?_) ?_
 have bx := aq
 try simp only [ze] at bx
 exact lD (Iv (ch.need)) kT (if_pos aq) (zb (p.b0) rfl) ⟨rfl, rfl⟩
 refine stc (V := .bool cl) rfl rfl (fun ar => ?_) ?_
 have bz := ar
 try simp only [ze] at bz
 exact zN (k := .i64) (a := ch.need) (b := -1) (if_pos ar) rfl ⟨rfl, rfl⟩
 refine stc (V := .bool cl) rfl rfl (fun au => ?_) ?_
 have bA := au
 try simp only [ze] at bA
 exact ya (v := .bool cl) (if_pos au) ⟨rfl, rfl⟩
 refine yO (V := Ix ab 3) rfl rfl (fun av => ?_) ?_
 have bB := av.1
 try simp only [ze] at bB
 have hl450 := tD av.2
 exact UT rfl ⟨rfl, rfl⟩
 refine yO (V := Iv (ch.least)) rfl rfl (fun B => ?_) ?_
 have bC := B.1
 try simp only [ze] at bC
 have hl453 := tD B.2
 exact lD (Iv (ch.least)) kT (if_pos ⟨B.1, B.2⟩) (zb (p.b0) rfl) ⟨rfl, rfl⟩
 refine yO (V := .bool (!decide ((ch.least) = 0))) rfl rfl (fun C => ?_) ?_
 have bD := C.1
 try simp only [ze] at bD
 have hl456 := tD C.2
 exact yr (k := .i64) (a := ch.least) (b := 0) (if_pos ⟨C.1, C.2⟩) rfl ⟨rfl, rfl⟩
 refine stc (V := .bool (cl && (!decide ((ch.least) = 0)))) rfl rfl (fun S => ?_) ?_
 have bE := S
 try simp only [ze] at bE
 exact zy (b := decide ((ch.need) = (-1))) (b' := !decide ((ch.least) = 0)) (if_pos S) (fun hbp => (if_pos ⟨S, hbp⟩)) ⟨rfl, rfl⟩
 refine st (zo (b := (decide ((ch.frm) < 0)) || (decide ((ch.to) < 0))) (b' := cl && (!decide ((ch.least) = 0))) rfl (fun hbp => (if_pos hbp)) (zd ?_))
 cases aw : ((decide (((f.moves.getD k default).frm) < 0)) || (decide (((f.moves.getD k default).to) < 0))) || ((decide (((f.moves.getD k default).need) = (-1))) && (!decide (((f.moves.getD k default).least) = 0)))
 try simp only [ze] at aw
 refine zg rfl (zl (R0 fun _ => st (mV (Iw k) ?_)))
 have bF : InR ((k + 1 : Nat) : Int) := bo
 refine st (zV (r := ((k + 1 : Nat) : Int)) (k := .i64) (a := ((k : Nat) : Int)) (b := 1) rfl rfl (by rw [show (((k : Nat) : Int) + 1 : Int) = ((k + 1 : Nat) : Int) from bo]; exact zJ bF) (st (aS (Iw (k + 1)) (zd ?_))))
 have bG : Sep G W (cp :: co :: Rs) cc := p.sel 3 [1, 2] (Nat.le_add_left _ _) rfl rfl
 exact ⟨_, by omega, k + 1, _, rfl, sSf, by omega, bG⟩
 try simp only [ze] at aw
 refine zh rfl (za (R0 fun _ => st (aS (Iv 1) (zd (zk (zG lR (show _ = (Iv 1 : Value) from rfl) ?_))))))
 refine ⟨1, rfl, ?_, ?_, (p.s3_)⟩
 decide
 intro D
 exact absurd D dc
 try simp only [ze] at Y
 refine zh rfl (za (R0 fun _ => st (aS (Iv 1) (zd (zk (zG lR (show _ = (Iv 1 : Value) from rfl) ?_))))))
 refine ⟨1, rfl, ?_, ?_, (g.s2_)⟩
 decide
 intro D
 exact absurd D dc
 try simp only [ze] at aA
 refine zh rfl (za (R0 fun _ => st (aS (Iv 2) (zd (zk (zG lR (show _ = (Iv 2 : Value) from rfl) ?_))))))
 refine ⟨2, rfl, ?_, ?_, (g.s2_)⟩
 decide
 intro D
 exact absurd D dc

theorem zaI : Elem Tryz.prog 108 136 4 32 := ⟨pT, _, _, rfl, rfl, rfl, rfl, rfl⟩
theorem zar {G : Nat → Prop} {W w : World} {Rs : List HP} {d : Dcl} {dd0 : Value} (hdd0 : RdS W G dd0 d.types) {dd1 : Value} (hdd1 : RdS W G dd1 d.projs) (od : d.Ok) {ty : Int} (hty : InR ty) {fi : Int} (hfi : InR fi) (hS0 : Sep G W Rs w) : Ret Tryz.prog 48 [.agg (d.cells dd0 dd1).toArray, .int .i64 (ty), .int .i64 (fi)] w (fun r w' => ∃ (c1 : Int) (c2 : Int) (c3 : Bool) (dx : Value) (b : Bool), r = (.tuple #[.agg #[.int .i64 (c1), .int .i64 (c2), .bool c3, dx], .bool b] : Value) ∧ (dx.oneCell' = true) ∧ (b = true → (0 ≤ ty ∧ ty < d.types.length) ∧ 0 ≤ fi ∧ fi < (d.types.getD ty.toNat default).fields.length) ∧ Sep G W Rs w') := by
 let aP := zP W (sb dd0) (so dd0 + ty.toNat * 1 + 0)
 let aQ := zP W (sb aP) (so aP + fi.toNat * 4 + 3)
 have hdd0s : _ * 24 ≤ _ := hdd0.small
 have hdd1s : _ * 40 ≤ _ := hdd1.small
 refine zi (args := [.agg (d.cells dd0 dd1).toArray, Iv ty, Iv fi]) Tryz.func48 rfl rfl ?_
 refine za (R0 fun _ => st (zH (v := .agg (d.cells dd0 dd1).toArray) rfl ?_))
 intro w3 b2 aL
 refine st (zr vT ?_)
 intro w7 S aM
 have g := (hS0.new aL).new aM
 refine st (aS (.bool false) (zd (za (za (zv kr (st (mV (Iv ty) (st (zF (k := .i64) (a := ty) (b := 0) rfl rfl (st (mV (.bool (decide (ty < 0))) (stc (V := Iv ty) rfl rfl (fun aN => ?_) ?_))))))))))))
 have hl10 := fD aN
 exact mV (Iv ty) ⟨rfl, rfl⟩
 refine stc (V := Ix b2 0) rfl rfl (fun ai => ?_) ?_
 have hl12 := fD ai
 exact yC rfl ⟨rfl, rfl⟩
 refine stc (V := dd0) rfl rfl (fun A => ?_) ?_
 have hl14 := fD A
 exact lD dd0 mT (if_pos A) (zb (g.b1) rfl) ⟨rfl, rfl⟩
 refine stc (V := Iw d.types.length) rfl rfl (fun B => ?_) ?_
 have hl16 := fD B
 exact zL (n := d.types.length) nT (if_pos B) hdd0.sl ⟨rfl, rfl⟩
 refine stc (V := .bool (decide (((d.types.length : Nat) : Int) ≤ ty))) rfl rfl (fun q => ?_) ?_
 have hl18 := fD q
 exact xo (k := .i64) (a := ty) (b := ((d.types.length : Nat) : Int)) (if_pos q) (if_pos q) ⟨rfl, rfl⟩
 refine st (zo (b := decide (ty < 0)) (b' := decide (((d.types.length : Nat) : Int) ≤ ty)) rfl (fun hbp => (if_pos hbp)) (st (mV (.bool ((decide (ty < 0)) || (decide (((d.types.length : Nat) : Int) ≤ ty)))) (stc (V := Iv fi) rfl rfl (fun aj => ?_) ?_))))
 have ak := aj
 try simp only [ze] at ak
 exact mV (Iv fi) ⟨rfl, rfl⟩
 refine stc (V := .bool (decide (fi < 0))) rfl rfl (fun C => ?_) ?_
 have al := C
 try simp only [ze] at al
 exact zF (k := .i64) (a := fi) (b := 0) (if_pos C) rfl ⟨rfl, rfl⟩
 refine st (zo (b := (decide (ty < 0)) || (decide (((d.types.length : Nat) : Int) ≤ ty))) (b' := decide (fi < 0)) rfl (fun hbp => (if_pos hbp)) (st (mV (.bool (((decide (ty < 0)) || (decide (((d.types.length : Nat) : Int) ≤ ty))) || (decide (fi < 0)))) (stc (V := Iv fi) rfl rfl (fun am => ?_) ?_))))
 have an := am
 try simp only [ze] at an
 exact mV (Iv fi) ⟨rfl, rfl⟩
 refine stc (V := Ix b2 0) rfl rfl (fun ao => ?_) ?_
 have ap := ao
 try simp only [ze] at ap
 exact yC rfl ⟨rfl, rfl⟩
 refine stc (V := dd0) rfl rfl (fun D => ?_) ?_
 have aq := D
 try simp only [ze] at aq
 exact lD dd0 mT (if_pos D) (zb (g.b1) rfl) ⟨rfl, rfl⟩
 refine stc (V := Iv ty) rfl rfl (fun ar => ?_) ?_
 have au := ar
 try simp only [ze] at au
 exact mV (Iv ty) ⟨rfl, rfl⟩
 refine stc (V := Ix (sb dd0) (so dd0 + ty.toNat * 1)) rfl rfl (fun s => ?_) ?_
 have av := s
 try simp only [ze] at av
 have hi33 : ty.toNat < d.types.length := bo
 exact zz (k := 1) (i := ty) nT qT (if_pos s) hdd0.sl (if_pos s) ⟨by omega, by omega⟩ ⟨rfl, rfl⟩
 refine stc (V := Ix (sb dd0) (so dd0 + ty.toNat * 1)) rfl rfl (fun E => ?_) ?_
 have aw := E
 try simp only [ze] at aw
 exact yZ (if_pos E) ⟨rfl, rfl⟩
 refine stc (V := aP) rfl rfl (fun F => ?_) ?_
 have ax := F
 try simp only [ze] at ax
 have H : ty.toNat < d.types.length := bo
 obtain ⟨T, z, hoke38⟩ := hdd0.typD H
 have hsm40 : ((d.types.getD ty.toNat default).fields).length * 48 ≤ 140737488355328 := z.small
 have U := g.cells T (hdd0.foot (ne_of_lt H))
 exact lD aP rT (if_pos F) (U.get (j := 0) rfl) ⟨rfl, rfl⟩
 refine stc (V := Iw (((d.types.getD ty.toNat default).fields).length)) rfl rfl (fun I => ?_) ?_
 have ay := I
 try simp only [ze] at ay
 have J : ty.toNat < d.types.length := bo
 obtain ⟨X, l, hoke44⟩ := hdd0.typD J
 have hsm46 : ((d.types.getD ty.toNat default).fields).length * 48 ≤ 140737488355328 := l.small
 have hcw47 := g.cells X (hdd0.foot (ne_of_lt J))
 exact zL (n := ((d.types.getD ty.toNat default).fields).length) oT (if_pos I) l.sl ⟨rfl, rfl⟩
 refine stc (V := .bool (decide (((((d.types.getD ty.toNat default).fields).length : Nat) : Int) ≤ fi))) rfl rfl (fun t => ?_) ?_
 have az := t
 try simp only [ze] at az
 exact xo (k := .i64) (a := fi) (b := ((((d.types.getD ty.toNat default).fields).length : Nat) : Int)) (if_pos t) (if_pos t) ⟨rfl, rfl⟩
 refine st (zo (b := ((decide (ty < 0)) || (decide (((d.types.length : Nat) : Int) ≤ ty))) || (decide (fi < 0))) (b' := decide (((((d.types.getD ty.toNat default).fields).length : Nat) : Int) ≤ fi)) rfl (fun hbp => (if_pos hbp)) (zd ?_))
 cases K : (((decide (ty < 0)) || (decide (((d.types.length : Nat) : Int) ≤ ty))) || (decide (fi < 0))) || (decide (((((d.types.getD ty.toNat default).fields).length : Nat) : Int) ≤ fi))
 try simp only [ze] at K
 refine zg rfl (zl (za (R0 fun _ => st (yC rfl (st (lD dd0 mT rfl (zb (g.b1) rfl) (st (mV (Iv ty) ?_))))))))
 have hi51 : ty.toNat < d.types.length := bo
 refine st (zz (k := 1) (i := ty) nT qT rfl hdd0.sl rfl ⟨by omega, by omega⟩ (st (yZ rfl ?_)))
 have L : ty.toNat < d.types.length := bo
 obtain ⟨Y, f, hoke52⟩ := hdd0.typD L
 have hsm54 : ((d.types.getD ty.toNat default).fields).length * 48 ≤ 140737488355328 := f.small
 have Z := g.cells Y (hdd0.foot (ne_of_lt L))
 refine st (lD aP rT rfl (Z.get (j := 0) rfl) (st (mV (Iv fi) ?_)))
 have hi56 : fi.toNat < ((d.types.getD ty.toNat default).fields).length := bo
 refine st (zz (k := 4) (i := fi) oT lT rfl f.sl rfl ⟨by omega, by omega⟩ ?_)
 have M : fi.toNat < ((d.types.getD ty.toNat default).fields).length := bo
 obtain ⟨aa, e, p⟩ := f.fldD M
 have hsm59 : ((((d.types.getD ty.toNat default).fields).getD fi.toNat default).moves).length * 32 ≤ 140737488355328 := e.small
 have ab := g.cells aa (f.foot (ne_of_lt M))
 refine st (zf (k := 4) tT lT rfl rfl ab (st (zr vT ?_)))
 intro w63 ag aA
 have N := g.new aA
 refine stn (zp (v := .agg ((((d.types.getD ty.toNat default).fields).getD fi.toNat default).cells aQ).toArray) (c' := ((((d.types.getD ty.toNat default).fields).getD fi.toNat default).cells aQ).toArray) lT rfl rfl (N.b0) (zW ⟨rfl, rfl, rfl, e.sl.one, trivial⟩) yqc rfl ?_)
 intro w65 aB
 refine zd (za (R0 fun _ => st (aS (Iz) (zd (za (za (R0 fun _ => st (aS (Iv 0) (zd (zw ?_))))))))))
 have aC : Sep _ _ ((RowE (α := Mv) own 136 (Iz) ([] : List Mv)) :: _) _ := (N.pt0 aB).rowNil own 136
 refine yh (fun mq σ wq => ∃ (k : Nat) (vm : Value) (ρ : Env), mq = ((d.types.getD ty.toNat default).fields.getD fi.toNat default).moves.length - k ∧ σ = ye ρ [(3, Ix b2 0), (6, Ix S 0), (8, Ix ag 0), (10, Iw k), (9, vm)] ∧ (k ≤ ((d.types.getD ty.toNat default).fields.getD fi.toNat default).moves.length) ∧ Sep G W ((RowE (α := Mv) own 136 vm (((d.types.getD ty.toNat default).fields.getD fi.toNat default).moves.take k)) :: (Blk ag ((((d.types.getD ty.toNat default).fields).getD fi.toNat default).cells (zP W (sb (zP W (sb dd0) (so dd0 + ty.toNat * 1 + 0))) (so (zP W (sb dd0) (so dd0 + ty.toNat * 1 + 0)) + fi.toNat * 4 + 3))).toArray 110) :: (Blk S #[Iv 0, Iv 0, .bool false, (Iz)] 110) :: (Blk b2 (d.cells dd0 dd1).toArray 25) :: Rs) wq) ⟨0, (Iz), _, rfl, sSf, Nat.zero_le _, aC⟩ ?_
 rintro m70 σ71 w69 ⟨k, vm, ρl1, rfl, rfl, hkk, h⟩
 have m := h.r0
 have hr73s : _ * 32 ≤ _ := m.2
 refine za (za (R0 fun _ => st (mV (Iw k) (st (yF rfl (st (lD aQ sT rfl (zb (h.b1) rfl) (st (zL (n := ((((d.types.getD ty.toNat default).fields).getD fi.toNat default).moves).length) pT rfl e.sl (st (zF (k := .i64) (a := ((k : Nat) : Int)) (b := ((((((d.types.getD ty.toNat default).fields).getD fi.toNat default).moves).length : Nat) : Int)) rfl rfl (zd ?_))))))))))))
 cases o : decide (((k : Nat) : Int) < ((((((d.types.getD ty.toNat default).fields).getD fi.toNat default).moves).length : Nat) : Int))
 have o := fD o
 refine zg rfl (yi (yb (za (R0 fun _ => st (mV vm (st (yF rfl (stn (yn (v := vm) (c := [Iv ((((d.types.getD ty.toNat default).fields).getD fi.toNat default).kind), Iv ((((d.types.getD ty.toNat default).fields).getD fi.toNat default).policy), .bool ((((d.types.getD ty.toNat default).fields).getD fi.toNat default).floor), aQ]) (c' := [Iv ((((d.types.getD ty.toNat default).fields).getD fi.toNat default).kind), Iv ((((d.types.getD ty.toNat default).fields).getD fi.toNat default).policy), .bool ((((d.types.getD ty.toNat default).fields).getD fi.toNat default).floor), vm]) rY rfl rfl (h.b1) m.1.one rfl rfl ?_)))))))))
 intro w75 aD
 have ok77 : Fld.Ok (⟨(((d.types.getD ty.toNat default).fields).getD fi.toNat default).kind, (((d.types.getD ty.toNat default).fields).getD fi.toNat default).policy, (((d.types.getD ty.toNat default).fields).getD fi.toNat default).floor, ((d.types.getD ty.toNat default).fields.getD fi.toNat default).moves.take k⟩ : Fld) := ⟨(show InR ((((d.types.getD ty.toNat default).fields).getD fi.toNat default).kind) from p.kind), (show InR ((((d.types.getD ty.toNat default).fields).getD fi.toNat default).policy) from p.policy)⟩
 have u := h.pt1 aD
 refine zd (za (R0 fun _ => st (zf (k := 4) tT lT rfl rfl (CellsAt.all (u.b1)) (stn (zp (v := .agg ((⟨(((d.types.getD ty.toNat default).fields).getD fi.toNat default).kind, (((d.types.getD ty.toNat default).fields).getD fi.toNat default).policy, (((d.types.getD ty.toNat default).fields).getD fi.toNat default).floor, ((d.types.getD ty.toNat default).fields.getD fi.toNat default).moves.take k⟩ : Fld).cells vm).toArray) (c' := ((⟨(((d.types.getD ty.toNat default).fields).getD fi.toNat default).kind, (((d.types.getD ty.toNat default).fields).getD fi.toNat default).policy, (((d.types.getD ty.toNat default).fields).getD fi.toNat default).floor, ((d.types.getD ty.toNat default).fields.getD fi.toNat default).moves.take k⟩ : Fld).cells vm).toArray) lT rfl rfl (u.b2) (zW ⟨rfl, rfl, rfl, m.1.one, trivial⟩) yqc rfl ?_)))))
 intro aO aE
 have O := u.pt2 aE
 refine st (aS (.bool true) (zd (zk (Zv (b := S) sY tT lT rfl rfl (CellsAt.all (O.b2)) (show _ = (.bool true : Value) from rfl) ?_))))
 have aF : Sep G W Rs aO := O.sel 4 [] (Nat.le_add_left _ _) rfl rfl
 refine ⟨(((d.types.getD ty.toNat default).fields).getD fi.toNat default).kind, (((d.types.getD ty.toNat default).fields).getD fi.toNat default).policy, (((d.types.getD ty.toNat default).fields).getD fi.toNat default).floor, vm, true, rfl, ?_, ?_, aF⟩
 exact m.1.one
 intro _; omega
 have o := tD o
 refine zh rfl (zl (za (zw (R0 fun _ => st (mV vm (st (yF rfl (st (lD aQ sT rfl (zb (h.b1) rfl) (st (mV (Iw k) ?_)))))))))))
 have aG : k < ((((d.types.getD ty.toNat default).fields).getD fi.toNat default).moves).length := bo
 refine st (zn (k := 4) (i := k) pT uT rfl e.sl rfl aG ?_)
 have P : k < ((((d.types.getD ty.toNat default).fields).getD fi.toNat default).moves).length := bo
 obtain ⟨ac, Q⟩ := e.mvD P
 have ad := h.cells ac (e.foot (ne_of_lt P))
 refine st (zf (k := 4) qY uT rfl rfl ad (st (zS (k := 4) (parts' := [(0, .agg ((((((d.types.getD ty.toNat default).fields).getD fi.toNat default).moves).getD k default).cells).toArray)]) (c := ((((((d.types.getD ty.toNat default).fields).getD fi.toNat default).moves).getD k default).cells).toArray) pT uT tR dc rfl kr ?_)))
 intro w89 b88 aH
 have R := h.new aH
 have ae := R.b0
 refine st (xb (src := own) (bytes := 32) (x1 := (((((d.types.getD ty.toNat default).fields).getD fi.toNat default).moves).getD k default)) ((R.s5_bcde).emp1) zaI rfl rfl ae (fun _ _ _ => (show _ from ⟨rfl, Q⟩)) yqb rfl ?_)
 intro ah w91 x
 have aI := x.r0
 have hr97s : _ * 32 ≤ _ := aI.2
 refine st (aS ah (zd (R0 fun _ => st (mV (Iw k) ?_))))
 have aJ : InR ((k + 1 : Nat) : Int) := bo
 refine st (zV (r := ((k + 1 : Nat) : Int)) (k := .i64) (a := ((k : Nat) : Int)) (b := 1) rfl rfl (by rw [show (((k : Nat) : Int) + 1 : Int) = ((k + 1 : Nat) : Int) from bo]; exact zJ aJ) (st (aS (Iw (k + 1)) (zd ?_))))
 have aK : (((d.types.getD ty.toNat default).fields.getD fi.toNat default).moves.take (k + 1)) = (((d.types.getD ty.toNat default).fields.getD fi.toNat default).moves.take k) ++ [(((((d.types.getD ty.toNat default).fields).getD fi.toNat default).moves).getD k default)] := (List.take_getD om)
 rw [← aK] at x
 exact ⟨_, by omega, k + 1, ah, _, rfl, sSf, by omega, x⟩
 try simp only [ze] at K
 refine zh rfl (za (R0 fun _ => ?_))
 have ok100 : Fld.Ok (⟨0, 0, false, []⟩ : Fld) := ⟨(show InR (0) from dc), (show InR (0) from dc)⟩
 refine st (zI (parts' := []) (v := .agg ((⟨0, 0, false, []⟩ : Fld).cells (Iz)).toArray) rfl (by simp +zetaDelta [Instr.build, Instr.fill, Ev.cells, go_sem, Mv.cells, Fld.cells, Typ.cells, Prj.cells, Dcl.cells, Cel.cells, AskR.cells]) (stn (zp (v := .agg ((⟨0, 0, false, []⟩ : Fld).cells (Iz)).toArray) (c' := ((⟨0, 0, false, []⟩ : Fld).cells (Iz)).toArray) lT rfl rfl (g.b0) (zW ⟨rfl, rfl, rfl, rfl, trivial⟩) yqc rfl ?_)))
 intro w101 af
 have y := g.pt0 af
 refine st (aS (.bool false) (zd (zk (Zv (b := S) sY tT lT rfl rfl (CellsAt.all (y.b0)) (show _ = (.bool false : Value) from rfl) ?_))))
 refine ⟨0, 0, false, (Iz), false, rfl, ?_, ?_, (y.s2_)⟩
 rfl
 intro h9; cases h9

theorem JE {G : Nat → Prop} {W w : World} {Rs : List HP} {d : Dcl} {dd0 : Value} (hdd0 : RdS W G dd0 d.types) {dd1 : Value} (hdd1 : RdS W G dd1 d.projs) (od : d.Ok) (hS0 : Sep G W Rs w) : Ret Tryz.prog 22 [.agg (d.cells dd0 dd1).toArray] w (fun r w' => ∃ (e : Int), r = (.int .i64 (e) : Value) ∧ (InR e) ∧ (e = 0 → DclOk d ∧ QW d) ∧ Sep G W Rs w') := by
 have hdd0s : _ * 24 ≤ _ := hdd0.small
 have hdd1s : _ * 40 ≤ _ := hdd1.small
 refine zi (args := [.agg (d.cells dd0 dd1).toArray]) Tryz.func22 rfl rfl ?_
 refine za (R0 fun _ => st (zH (v := .agg (d.cells dd0 dd1).toArray) rfl ?_))
 intro w3 b2 df
 let dj := Blk b2 (d.cells dd0 dd1).toArray 25
 have cQ := hS0.new df
 refine st (aS (Iv 0) (zd (za (za (R0 fun _ => st (zf (k := 2) uR vR rfl rfl (CellsAt.all (cQ.b0)) (st (cL Tryz.call46 (zbc (d := d) hdd0 hdd1 od cQ) ?_))))))))
 rintro _ w7 ⟨b5, rfl, dg, cR⟩
 refine zd ?_
 cases dh : b5
 have hfew := dg dh
 refine zg rfl (zl (za (za (R0 fun _ => st (aS (Iv 0) (zd (zw (yh (fun mq σ S => ∃ (k : Nat) (ρ : Env), mq = d.types.length - k ∧ σ = ye ρ [(1, Ix b2 0), (3, Iw k)] ∧ (k ≤ d.types.length) ∧ (∀ i, i < k → ∀ j, j < (d.types.getD i default).fields.length → Vk (d.types.getD i default) ((d.types.getD i default).fields.getD j default)) ∧ Sep G W ((Blk b2 (d.cells dd0 dd1).toArray 25) :: Rs) S) ⟨0, _, rfl, sSf, Nat.zero_le _, (fun i h => absurd h (Nat.not_lt_zero i)), cR⟩ ?_))))))))
 rintro m11 σ12 w10 ⟨k, ρl1, rfl, rfl, hkk, hm, aw⟩
 let aj := zP W (sb dd0) (so dd0 + k * 1 + 0)
 refine za (za (R0 fun _ => st (mV (Iw k) (st (yC rfl (st (lD dd0 mT rfl (zb (aw.b0) rfl) (st (zL (n := d.types.length) nT rfl hdd0.sl (st (zF (k := .i64) (a := ((k : Nat) : Int)) (b := ((d.types.length : Nat) : Int)) rfl rfl (zd ?_))))))))))))
 cases ak : decide (((k : Nat) : Int) < ((d.types.length : Nat) : Int))
 have ak := fD ak
 refine zg rfl (yi (yb (za (za (R0 fun _ => st (aS (Iv 0) (zd (zw (yh (fun mq σ S => ∃ (z : Nat) (ρ : Env), mq = d.projs.length - z ∧ σ = ye ρ [(1, Ix b2 0), (6, Iw z)] ∧ (z ≤ d.projs.length) ∧ (∀ i, i < z → UV (d.projs.getD i default)) ∧ Sep G W ((Blk b2 (d.cells dd0 dd1).toArray 25) :: Rs) S) ⟨0, _, rfl, sSf, Nat.zero_le _, (fun i h => absurd h (Nat.not_lt_zero i)), aw⟩ ?_)))))))))
 rintro m16 σ17 w15 ⟨z, ρl2, rfl, rfl, hkz, hpz, ad⟩
 let di := (d.projs.getD z default).cells
 refine za (za (R0 fun _ => st (mV (Iw z) (st (Xs rfl (st (lD dd1 nR rfl (zb (ad.b0) rfl) (st (zL (n := d.projs.length) oR rfl hdd1.sl (st (zF (k := .i64) (a := ((z : Nat) : Int)) (b := ((d.projs.length : Nat) : Int)) rfl rfl (zd ?_))))))))))))
 cases al : decide (((z : Nat) : Int) < ((d.projs.length : Nat) : Int))
 have al := fD al
 refine zg rfl (yi (yb (za (R0 fun _ => st (aS (Iv 0) (zd (zk (zG wT (show _ = (Iv 0 : Value) from rfl) ?_))))))))
 refine ⟨0, rfl, ?_, ?_, (ad.s1_)⟩
 first | decide | assumption
 intro h9
 exact ⟨zbx hfew.1 (fun i hi => hm i om), hfew.2, fun i hi => hpz i om⟩
 have al := tD al
 refine zh rfl (zl (za (zw (za (R0 fun _ => st (Xs rfl (st (lD dd1 nR rfl (zb (ad.b0) rfl) (st (mV (Iw z) ?_))))))))))
 have cT : z < d.projs.length := bo
 refine st (zn (k := 5) (i := z) oR wR rfl hdd1.sl rfl cT ?_)
 have bh : z < d.projs.length := bo
 obtain ⟨bx, ae⟩ := hdd1.prjD bh
 have bz := ad.cells bx (hdd1.foot (ne_of_lt bh))
 refine st (zf (k := 5) Tryz.isAgg115 wR rfl rfl bz (st (zr Tryz.zeroValue115 ?_)))
 intro w27 u cU
 have bi := ad.new cU
 refine stn (zp (v := .agg di.toArray) (c' := di.toArray) wR rfl rfl (bi.b0) (zW ⟨rfl, rfl, rfl, rfl, rfl, trivial⟩) yqc rfl ?_)
 intro w29 cV
 have am := bi.pt0 cV
 refine zd (za (R0 fun _ => st (zf (k := 2) uR vR rfl rfl (CellsAt.all (am.b1)) (st (UO rfl (st (lD (Iv ((d.projs.getD z default).ptyp)) kT rfl (zb (am.b0) rfl) (st (zak rfl (st (lD (Iv ((d.projs.getD z default).pfield)) kT rfl (zb (am.b0) rfl) (st (cL Tryz.call48 (zar (d := d) (ty := (d.projs.getD z default).ptyp) (fi := (d.projs.getD z default).pfield) hdd0 hdd1 od ae.ptyp ae.pfield am) ?_)))))))))))))
 rintro _ w39 ⟨o, p, q, s, x, rfl, hdx37, bj, cW⟩
 refine st (mV (.tuple #[.agg #[Iv o, Iv p, .bool q, s], .bool x]) (st (zj (vs := [.agg #[Iv o, Iv p, .bool q, s], .bool x]) (i := 0) (v := .agg #[Iv o, Iv p, .bool q, s]) rfl rfl (st (zj (vs := [.agg #[Iv o, Iv p, .bool q, s], .bool x]) (i := 1) (v := .bool x) rfl rfl (st (zr vT ?_)))))))
 intro w43 bk cX
 have bl := cW.new cX
 refine stn (zp (v := .agg #[Iv o, Iv p, .bool q, s]) (c' := #[Iv o, Iv p, .bool q, s]) lT rfl rfl (bl.b0) (zW ⟨rfl, rfl, rfl, (by assumption), trivial⟩) yqc rfl ?_)
 intro w45 cY
 have bm := bl.pt0 cY
 refine st (aS (.bool x) (zd (za (za (R0 fun _ => st (mV (.bool x) (st (yH (a := x) rfl (zd ?_)))))))))
 cases ax : !x
 try simp only [ze] at ax
 have hpt := bj (by have h9 := ax; simpa using h9)
 refine zg rfl (zl (za (za ?_)))
 refine WD4 ((fun TT av => WF [fun vals S => Sep G W (av :: TT) S, fun vals S => (vals 12 = (if (decide (((d.projs.getD z default).pgroup) = 3)) = true then (Iv ((yz (d.types.getD (((d.projs.getD z default).ptyp).toNat) default) ((d.projs.getD z default).pby))) : Value) else undef)) ∧ Sep G W (av :: TT) S]) ((Blk u di.toArray 115) :: dj :: Rs) (Blk bk #[Iv o, Iv p, .bool q, s] 110)) (AF [Vl 0 (Ix u 2), Vl 1 (Iv ((d.projs.getD z default).pgroup)), Vl 2 (.bool (decide (((d.projs.getD z default).pgroup) = 3))), Vl 3 (.bool (decide (((d.projs.getD z default).pgroup) = 3))), Vl 4 (if (decide (((d.projs.getD z default).pgroup) = 3)) = true then Ix b2 0 else undef), Vl 5 (if (decide (((d.projs.getD z default).pgroup) = 3)) = true then dd0 else undef), Vl 6 (if (decide (((d.projs.getD z default).pgroup) = 3)) = true then Ix u 0 else undef), Vl 7 (if (decide (((d.projs.getD z default).pgroup) = 3)) = true then Iv ((d.projs.getD z default).ptyp) else undef), Vl 8 (if (decide (((d.projs.getD z default).pgroup) = 3)) = true then Ix (sb dd0) (so dd0 + (((d.projs.getD z default).ptyp).toNat) * 1) else undef), Vl 9 (if (decide (((d.projs.getD z default).pgroup) = 3)) = true then .agg ((d.types.getD (((d.projs.getD z default).ptyp).toNat) default).cells (zP W (sb dd0) (so dd0 + (((d.projs.getD z default).ptyp).toNat) * 1 + 0))).toArray else undef), Vl 10 (if (decide (((d.projs.getD z default).pgroup) = 3)) = true then Ix u 3 else undef), Vl 11 (if (decide (((d.projs.getD z default).pgroup) = 3)) = true then Iv ((d.projs.getD z default).pby) else undef), fun _ => True, Vl 13 (if (decide (((d.projs.getD z default).pgroup) = 3)) = true then .bool (!decide ((yz (d.types.getD (((d.projs.getD z default).ptyp).toNat) default) ((d.projs.getD z default).pby)) = 2)) else undef), Vl 14 (.bool ((decide (((d.projs.getD z default).pgroup) = 3)) && (!decide ((yz (d.types.getD (((d.projs.getD z default).ptyp).toNat) default) ((d.projs.getD z default).pby)) = 2)))), Vl 15 (.bool ((decide (((d.projs.getD z default).pgroup) = 3)) && (!decide ((yz (d.types.getD (((d.projs.getD z default).ptyp).toNat) default) ((d.projs.getD z default).pby)) = 2)))), Vl 16 (if ((decide (((d.projs.getD z default).pgroup) = 3)) && (!decide ((yz (d.types.getD (((d.projs.getD z default).ptyp).toNat) default) ((d.projs.getD z default).pby)) = 2))) = false then Ix u 2 else undef), Vl 17 (if ((decide (((d.projs.getD z default).pgroup) = 3)) && (!decide ((yz (d.types.getD (((d.projs.getD z default).ptyp).toNat) default) ((d.projs.getD z default).pby)) = 2))) = false then Iv ((d.projs.getD z default).pgroup) else undef), Vl 18 (if ((decide (((d.projs.getD z default).pgroup) = 3)) && (!decide ((yz (d.types.getD (((d.projs.getD z default).ptyp).toNat) default) ((d.projs.getD z default).pby)) = 2))) = false then .bool (!decide (((d.projs.getD z default).pgroup) = 3)) else undef), Vl 19 (if ((decide (((d.projs.getD z default).pgroup) = 3)) && (!decide ((yz (d.types.getD (((d.projs.getD z default).ptyp).toNat) default) ((d.projs.getD z default).pby)) = 2))) = false then .bool (!decide (((d.projs.getD z default).pgroup) = 3)) else undef), Vl 20 (if (((decide (((d.projs.getD z default).pgroup) = 3)) && (!decide ((yz (d.types.getD (((d.projs.getD z default).ptyp).toNat) default) ((d.projs.getD z default).pby)) = 2))) = false) ∧ (!decide (((d.projs.getD z default).pgroup) = 3)) = true then Ix u 3 else undef), Vl 21 (if (((decide (((d.projs.getD z default).pgroup) = 3)) && (!decide ((yz (d.types.getD (((d.projs.getD z default).ptyp).toNat) default) ((d.projs.getD z default).pby)) = 2))) = false) ∧ (!decide (((d.projs.getD z default).pgroup) = 3)) = true then Iv ((d.projs.getD z default).pby) else undef), Vl 22 (if (((decide (((d.projs.getD z default).pgroup) = 3)) && (!decide ((yz (d.types.getD (((d.projs.getD z default).ptyp).toNat) default) ((d.projs.getD z default).pby)) = 2))) = false) ∧ (!decide (((d.projs.getD z default).pgroup) = 3)) = true then .bool (!decide (((d.projs.getD z default).pby) = 0)) else undef), Vl 23 (if ((decide (((d.projs.getD z default).pgroup) = 3)) && (!decide ((yz (d.types.getD (((d.projs.getD z default).ptyp).toNat) default) ((d.projs.getD z default).pby)) = 2))) = false then .bool ((!decide (((d.projs.getD z default).pgroup) = 3)) && (!decide (((d.projs.getD z default).pby) = 0))) else undef), Vl 24 (.bool (((decide (((d.projs.getD z default).pgroup) = 3)) && (!decide ((yz (d.types.getD (((d.projs.getD z default).ptyp).toNat) default) ((d.projs.getD z default).pby)) = 2))) || ((!decide (((d.projs.getD z default).pgroup) = 3)) && (!decide (((d.projs.getD z default).pby) = 0)))))]) [[], [0], [0, 1], [0, 1, 2], (rg 4), (rg 5), (rg 4), [0, 1, 2, 3, 6], (rg 8), (rg 9), (rg 4), [0, 1, 2, 3, 10], (rg 12), (rg 13), (rg 14), (rg 15), (rg 16), (rg 17), (rg 18), (rg 19), (rg 20), (rg 21), (rg 22), (rg 23), (rg 24)] [12] [(0, 0), (0, 0), (0, 0), (0, 0), (0, 0), (0, 0), (0, 0), (0, 0), (0, 0), (0, 0), (0, 0), (0, 0), (0, 0), (1, 1), (1, 1), (1, 1), (1, 1), (1, 1), (1, 1), (1, 1), (1, 1), (1, 1), (1, 1), (1, 1), (1, 1)] bm ⟨fun _ _ _ _ _ _ _ => obl rfl (YK rfl dR), ob1 0 fun _ _ (bA : Sep _ _ _ _) bB => obl rfl (lD (Iv ((d.projs.getD z default).pgroup)) kT (bB 0 dc) (zb (bA.b1) rfl) dR), ob1 0 fun _ _ _ bC => obl rfl (zN (k := .i64) (a := (d.projs.getD z default).pgroup) (b := 3) (bC 1 dc) rfl dR), fun _ _ _ _ _ _ bD => obl rfl (ya (v := .bool (decide (((d.projs.getD z default).pgroup) = 3))) (bD 2 dc) dR), ?_, ?_, ?_, ?_, ?_, ?_, ?_, ?_, ?_, ?_, fun _ _ _ _ _ _ aA => obl rfl (zy (b := decide (((d.projs.getD z default).pgroup) = 3)) (b' := !decide ((yz (d.types.getD (((d.projs.getD z default).ptyp).toNat) default) ((d.projs.getD z default).pby)) = 2)) (aA 3 dc) (fun hbp => (Eq.trans (aA 13 dc) (if_pos hbp))) dR), fun _ _ _ _ _ _ bE => obl rfl (ya (v := .bool ((decide (((d.projs.getD z default).pgroup) = 3)) && (!decide ((yz (d.types.getD (((d.projs.getD z default).ptyp).toNat) default) ((d.projs.getD z default).pby)) = 2)))) (bE 14 dc) dR), ?_, ?_, ?_, ?_, ?_, ?_, ?_, ?_, fun _ _ _ _ _ _ aB => obl rfl (zo (b := (decide (((d.projs.getD z default).pgroup) = 3)) && (!decide ((yz (d.types.getD (((d.projs.getD z default).ptyp).toNat) default) ((d.projs.getD z default).pby)) = 2))) (b' := (!decide (((d.projs.getD z default).pgroup) = 3)) && (!decide (((d.projs.getD z default).pby) = 0))) (aB 15 dc) (fun hbp => (Eq.trans (aB 23 dc) (if_pos hbp))) dR), trivial⟩ ?_
 refine fun _ _ _ _ _ _ bF => (yt rfl rfl (bF 3 dc) (fun T => ?_) (fun T => fun c g _ => ⟨trivial, g.trans (if_neg T).symm⟩))
 have hl341 := tD T
 exact yC rfl (fun c g _ => ⟨rfl, g.trans (if_pos T).symm⟩)
 refine ob1 0 fun _ _ (bG : Sep _ _ _ _) aC => (yt rfl rfl (aC 3 dc) (fun I => ?_) (fun I => fun c g _ => ⟨trivial, g.trans (if_neg I).symm⟩))
 have hl352 := tD I
 exact lD dd0 mT (Eq.trans (aC 4 dc) (if_pos I)) (zb (bG.b2) rfl) (fun c g _ => ⟨rfl, g.trans (if_pos I).symm⟩)
 refine fun _ _ _ _ _ _ bH => (yt rfl rfl (bH 3 dc) (fun U => ?_) (fun U => fun c g _ => ⟨trivial, g.trans (if_neg U).symm⟩))
 have hl361 := tD U
 exact UO rfl (fun c g _ => ⟨rfl, g.trans (if_pos U).symm⟩)
 refine ob1 0 fun _ _ (bI : Sep _ _ _ _) aD => (yt rfl rfl (aD 3 dc) (fun J => ?_) (fun J => fun c g _ => ⟨trivial, g.trans (if_neg J).symm⟩))
 have hl372 := tD J
 exact lD (Iv ((d.projs.getD z default).ptyp)) kT (Eq.trans (aD 6 dc) (if_pos J)) (zb (bI.b1) rfl) (fun c g _ => ⟨rfl, g.trans (if_pos J).symm⟩)
 refine ob1 0 fun _ _ _ an => (yt rfl rfl (an 3 dc) (fun C => ?_) (fun C => fun c g _ => ⟨trivial, g.trans (if_neg C).symm⟩))
 have hl384 := tD C
 have hi385 : ((d.projs.getD z default).ptyp).toNat < d.types.length := bo
 exact zz (k := 1) (i := (d.projs.getD z default).ptyp) nT qT (Eq.trans (an 5 dc) (if_pos C)) hdd0.sl (Eq.trans (an 7 dc) (if_pos C)) ⟨by omega, by omega⟩ (fun c g _ => ⟨rfl, g.trans (if_pos C).symm⟩)
 refine ob1 0 fun _ _ (bJ : Sep _ _ _ _) aE => (yt rfl rfl (aE 3 dc) (fun K => ?_) (fun K => fun c g _ => ⟨trivial, g.trans (if_neg K).symm⟩))
 have hl396 := tD K
 have aF : ((d.projs.getD z default).ptyp).toNat < d.types.length := bo
 obtain ⟨bn, ay, hoke397⟩ := hdd0.typD aF
 have hsm399 : ((d.types.getD (((d.projs.getD z default).ptyp).toNat) default).fields).length * 48 ≤ 140737488355328 := ay.small
 have bp := bJ.cells bn (hdd0.foot (ne_of_lt aF))
 exact zf (k := 1) sR qT rfl (Eq.trans (aE 8 dc) (if_pos K)) bp (fun c g _ => ⟨rfl, g.trans (if_pos K).symm⟩)
 refine fun _ _ _ _ _ _ bK => (yt rfl rfl (bK 3 dc) (fun X => ?_) (fun X => fun c g _ => ⟨trivial, g.trans (if_neg X).symm⟩))
 have hl409 := tD X
 exact UG rfl (fun c g _ => ⟨rfl, g.trans (if_pos X).symm⟩)
 refine ob1 0 fun _ _ (bL : Sep _ _ _ _) aG => (yt rfl rfl (aG 3 dc) (fun L => ?_) (fun L => fun c g _ => ⟨trivial, g.trans (if_neg L).symm⟩))
 have hl420 := tD L
 exact lD (Iv ((d.projs.getD z default).pby)) kT (Eq.trans (aG 10 dc) (if_pos L)) (zb (bL.b1) rfl) (fun c g _ => ⟨rfl, g.trans (if_pos L).symm⟩)
 refine ob1 0 fun vals cZ (ao : Sep _ _ _ _) ap => (yt rfl rfl (ap 3 dc) (fun D => ?_) (fun D c g aH => ?_))
 have hl177 := tD D
 have aI : ((d.projs.getD z default).ptyp).toNat < d.types.length := bo
 obtain ⟨bq, af, be⟩ := hdd0.typD aI
 have hsm180 : ((d.types.getD (((d.projs.getD z default).ptyp).toNat) default).fields).length * 48 ≤ 140737488355328 := af.small
 have hcw181 := ao.cells bq (hdd0.foot (ne_of_lt aI))
 refine (zB (f := 49) (vals := [.agg ((d.types.getD (((d.projs.getD z default).ptyp).toNat) default).cells (zP W (sb dd0) (so dd0 + (((d.projs.getD z default).ptyp).toNat) * 1 + 0))).toArray, Iv ((d.projs.getD z default).pby)]) (cap := []) rfl (yE ⟨(Eq.trans (ap 9 dc) (if_pos D)), (Eq.trans (ap 11 dc) (if_pos D)), trivial⟩) pY (Kw (t := (d.types.getD (((d.projs.getD z default).ptyp).toNat) default)) (n := (d.projs.getD z default).pby) af be ae.pby ao) ?_)
 rintro _ w182 ⟨rfl, bM⟩
 exact fun c g aH => ⟨(And.intro (g.trans (if_pos D).symm) bM), trivial⟩
 refine ⟨?_, trivial⟩
 show (c 12 = (if (decide (((d.projs.getD z default).pgroup) = 3)) = true then (Iv ((yz (d.types.getD (((d.projs.getD z default).ptyp).toNat) default) ((d.projs.getD z default).pby))) : Value) else undef)) ∧ Sep G W ((Blk bk #[Iv o, Iv p, .bool q, s] 110) :: (Blk u di.toArray 115) :: dj :: Rs) cZ
 exact ⟨(g.trans (if_neg D).symm), ao⟩
 refine ob1 1 fun _ _ bN bO => ?_
 obtain ⟨E, hS427⟩ := bN
 refine yt rfl rfl (bO 3 dc) (fun M => ?_) (fun M => fun c g _ => ⟨trivial, g.trans (if_neg M).symm⟩)
 have hl430 := tD M
 exact yr (k := .i64) (a := (yz (d.types.getD (((d.projs.getD z default).ptyp).toNat) default) ((d.projs.getD z default).pby))) (b := 2) (Eq.trans E (if_pos M)) rfl (fun c g _ => ⟨rfl, g.trans (if_pos M).symm⟩)
 refine fun _ _ _ _ _ _ bP => (yt rfl rfl (bP 15 dc) (fun Y => ?_) (fun Y => fun c g _ => ⟨trivial, g.trans (if_neg Y).symm⟩))
 have bQ := Y
 try simp only [ze] at bQ
 exact YK rfl (fun c g _ => ⟨rfl, g.trans (if_pos Y).symm⟩)
 refine ob1 1 fun _ _ bR aJ => ?_
 obtain ⟨E, bS⟩ := bR
 refine yt rfl rfl (aJ 15 dc) (fun N => ?_) (fun N => fun c g _ => ⟨trivial, g.trans (if_neg N).symm⟩)
 have bT := N
 try simp only [ze] at bT
 exact lD (Iv ((d.projs.getD z default).pgroup)) kT (Eq.trans (aJ 16 dc) (if_pos N)) (zb (bS.b1) rfl) (fun c g _ => ⟨rfl, g.trans (if_pos N).symm⟩)
 refine ob1 1 fun _ _ bU aK => ?_
 obtain ⟨E, hS472⟩ := bU
 refine yt rfl rfl (aK 15 dc) (fun O => ?_) (fun O => fun c g _ => ⟨trivial, g.trans (if_neg O).symm⟩)
 have bV := O
 try simp only [ze] at bV
 exact yr (k := .i64) (a := (d.projs.getD z default).pgroup) (b := 3) (Eq.trans (aK 17 dc) (if_pos O)) rfl (fun c g _ => ⟨rfl, g.trans (if_pos O).symm⟩)
 refine fun _ _ _ _ _ _ aL => (yt rfl rfl (aL 15 dc) (fun P => ?_) (fun P => fun c g _ => ⟨trivial, g.trans (if_neg P).symm⟩))
 have bW := P
 try simp only [ze] at bW
 exact ya (v := .bool (!decide (((d.projs.getD z default).pgroup) = 3))) (Eq.trans (aL 18 dc) (if_pos P)) (fun c g _ => ⟨rfl, g.trans (if_pos P).symm⟩)
 refine fun _ _ _ _ _ _ bX => (Za rfl rfl (bX 19 dc) (fun Q => ?_) (fun Q => fun c g _ => ⟨trivial, g.trans (if_neg Q).symm⟩))
 have bY := Q.1
 try simp only [ze] at bY
 have hl496 := zC Q.2
 exact UG rfl (fun c g _ => ⟨rfl, g.trans (if_pos Q).symm⟩)
 refine ob1 1 fun _ _ bZ aM => ?_
 obtain ⟨E, ca⟩ := bZ
 refine Za rfl rfl (aM 19 dc) (fun y => ?_) (fun y => fun c g _ => ⟨trivial, g.trans (if_neg y).symm⟩)
 have cb := y.1
 try simp only [ze] at cb
 have hl508 := zC y.2
 exact lD (Iv ((d.projs.getD z default).pby)) kT (Eq.trans (aM 20 dc) (if_pos ⟨y.1, y.2⟩)) (zb (ca.b1) rfl) (fun c g _ => ⟨rfl, g.trans (if_pos y).symm⟩)
 refine ob1 1 fun _ _ cc aN => ?_
 obtain ⟨E, hS515⟩ := cc
 refine Za rfl rfl (aN 19 dc) (fun A => ?_) (fun A => fun c g _ => ⟨trivial, g.trans (if_neg A).symm⟩)
 have cd := A.1
 try simp only [ze] at cd
 have hl520 := zC A.2
 exact yr (k := .i64) (a := (d.projs.getD z default).pby) (b := 0) (Eq.trans (aN 21 dc) (if_pos ⟨A.1, A.2⟩)) rfl (fun c g _ => ⟨rfl, g.trans (if_pos A).symm⟩)
 refine fun _ _ _ _ _ _ aq => (yt rfl rfl (aq 15 dc) (fun F => ?_) (fun F => fun c g _ => ⟨trivial, g.trans (if_neg F).symm⟩))
 have ce := F
 try simp only [ze] at ce
 exact zy (b := !decide (((d.projs.getD z default).pgroup) = 3)) (b' := !decide (((d.projs.getD z default).pby) = 0)) (Eq.trans (aq 19 dc) (if_pos F)) (fun hbp => (Eq.trans (aq 22 dc) (if_pos ⟨F, hbp⟩))) (fun c g _ => ⟨rfl, g.trans (if_pos F).symm⟩)
 intro vals da cf cg
 obtain ⟨E, B⟩ := cf
 have db := cg 24 dc
 refine zT (kv := [(1, Ix b2 0), (6, Iw z), (48, Iw z), (49, Ix b2 1), (50, dd1), (51, Iw d.projs.length), (52, .bool true), (55, Ix b2 1), (56, dd1), (57, Iw z), (58, Ix (sb dd1) (so dd1 + z * 5)), (59, .agg di.toArray), (7, Ix u 0), (61, .agg (d.cells dd0 dd1).toArray), (62, Ix u 0), (63, Iv ((d.projs.getD z default).ptyp)), (64, Ix u 1), (65, Iv ((d.projs.getD z default).pfield)), (66, .tuple #[.agg #[Iv o, Iv p, .bool q, s], .bool x]), (60, .tuple #[.agg #[Iv o, Iv p, .bool q, s], .bool x]), (67, .agg #[Iv o, Iv p, .bool q, s]), (68, .bool x), (8, Ix bk 0), (9, .bool x), (69, .bool x), (70, .bool false), (95, .bool (((decide (((d.projs.getD z default).pgroup) = 3)) && (!decide ((yz (d.types.getD (((d.projs.getD z default).ptyp).toNat) default) ((d.projs.getD z default).pby)) = 2))) || ((!decide (((d.projs.getD z default).pgroup) = 3)) && (!decide (((d.projs.getD z default).pby) = 0)))))]) ⟨rfl, rfl, rfl, rfl, rfl, rfl, rfl, rfl, rfl, rfl, rfl, rfl, rfl, rfl, rfl, rfl, rfl, rfl, rfl, rfl, rfl, rfl, rfl, rfl, rfl, rfl, (by exact db), trivial⟩ (fun ρw540 => ?_)
 refine zd ?_
 cases ar : ((decide (((d.projs.getD z default).pgroup) = 3)) && (!decide ((yz (d.types.getD (((d.projs.getD z default).ptyp).toNat) default) ((d.projs.getD z default).pby)) = 2))) || ((!decide (((d.projs.getD z default).pgroup) = 3)) && (!decide (((d.projs.getD z default).pby) = 0)))
 try simp only [ze] at ar
 refine zg rfl (zl (za (zv kr (st (YK rfl (st (lD (Iv ((d.projs.getD z default).pgroup)) kT rfl (zb (B.b1) rfl) (st (zF (k := .i64) (a := (d.projs.getD z default).pgroup) (b := 1) rfl rfl (st (mV (.bool (decide (((d.projs.getD z default).pgroup) < 1))) (stc (V := Ix u 2) rfl rfl (fun ch => ?_) ?_))))))))))))
 have hl547 := fD ch
 exact YK rfl ⟨rfl, rfl⟩
 refine stc (V := Iv ((d.projs.getD z default).pgroup)) rfl rfl (fun aO => ?_) ?_
 have hl549 := fD aO
 exact lD (Iv ((d.projs.getD z default).pgroup)) kT (if_pos aO) (zb (B.b1) rfl) ⟨rfl, rfl⟩
 refine stc (V := .bool (decide (3 < ((d.projs.getD z default).pgroup)))) rfl rfl (fun aP => ?_) ?_
 have hl551 := fD aP
 exact yM (k := .i64) (a := (d.projs.getD z default).pgroup) (b := 3) (if_pos aP) rfl ⟨rfl, rfl⟩
 refine st (zo (b := decide (((d.projs.getD z default).pgroup) < 1)) (b' := decide (3 < ((d.projs.getD z default).pgroup))) rfl (fun hbp => (if_pos hbp)) (st (mV (.bool ((decide (((d.projs.getD z default).pgroup) < 1)) || (decide (3 < ((d.projs.getD z default).pgroup))))) (stc (V := Ix u 4) rfl rfl (fun ci => ?_) ?_))))
 have cj := ci
 try simp only [ze] at cj
 exact Qa rfl ⟨rfl, rfl⟩
 refine stc (V := Iv ((d.projs.getD z default).pmake)) rfl rfl (fun aQ => ?_) ?_
 have ck := aQ
 try simp only [ze] at ck
 exact lD (Iv ((d.projs.getD z default).pmake)) kT (if_pos aQ) (zb (B.b1) rfl) ⟨rfl, rfl⟩
 refine stc (V := .bool (decide (((d.projs.getD z default).pmake) < 1))) rfl rfl (fun aR => ?_) ?_
 have cl := aR
 try simp only [ze] at cl
 exact zF (k := .i64) (a := (d.projs.getD z default).pmake) (b := 1) (if_pos aR) rfl ⟨rfl, rfl⟩
 refine st (zo (b := (decide (((d.projs.getD z default).pgroup) < 1)) || (decide (3 < ((d.projs.getD z default).pgroup)))) (b' := decide (((d.projs.getD z default).pmake) < 1)) rfl (fun hbp => (if_pos hbp)) (st (mV (.bool (((decide (((d.projs.getD z default).pgroup) < 1)) || (decide (3 < ((d.projs.getD z default).pgroup)))) || (decide (((d.projs.getD z default).pmake) < 1)))) (stc (V := Ix u 4) rfl rfl (fun cm => ?_) ?_))))
 have cn := cm
 try simp only [ze] at cn
 exact Qa rfl ⟨rfl, rfl⟩
 refine stc (V := Iv ((d.projs.getD z default).pmake)) rfl rfl (fun aT => ?_) ?_
 have co := aT
 try simp only [ze] at co
 exact lD (Iv ((d.projs.getD z default).pmake)) kT (if_pos aT) (zb (B.b1) rfl) ⟨rfl, rfl⟩
 refine stc (V := .bool (decide (5 < ((d.projs.getD z default).pmake)))) rfl rfl (fun aU => ?_) ?_
 have cp := aU
 try simp only [ze] at cp
 exact yM (k := .i64) (a := (d.projs.getD z default).pmake) (b := 5) (if_pos aU) rfl ⟨rfl, rfl⟩
 refine st (zo (b := ((decide (((d.projs.getD z default).pgroup) < 1)) || (decide (3 < ((d.projs.getD z default).pgroup)))) || (decide (((d.projs.getD z default).pmake) < 1))) (b' := decide (5 < ((d.projs.getD z default).pmake))) rfl (fun hbp => (if_pos hbp)) (zd ?_))
 cases au : (((decide (((d.projs.getD z default).pgroup) < 1)) || (decide (3 < ((d.projs.getD z default).pgroup)))) || (decide (((d.projs.getD z default).pmake) < 1))) || (decide (5 < ((d.projs.getD z default).pmake)))
 try simp only [ze] at au
 refine zg rfl (zl (R0 fun _ => st (mV (Iw z) ?_)))
 have cq : InR ((z + 1 : Nat) : Int) := bo
 refine st (zV (r := ((z + 1 : Nat) : Int)) (k := .i64) (a := ((z : Nat) : Int)) (b := 1) rfl rfl (by rw [show (((z : Nat) : Int) + 1 : Int) = ((z + 1 : Nat) : Int) from bo]; exact zJ cq) (st (aS (Iw (z + 1)) (zd ?_))))
 have cr : Sep G W (dj :: Rs) da := B.sel 3 [2] (Nat.le_add_left _ _) rfl rfl
 have dd : UV (d.projs.getD z default) := by
  have h8 := ar
  have h9 := au
  unfold UV
  by_cases hg : (d.projs.getD z default).pgroup = 3
  · have h7 := QG (t := d.types.getD (d.projs.getD z default).ptyp.toNat default) (n := (d.projs.getD z default).pby) (by omega); omega
  · omega
 exact ⟨_, by omega, z + 1, _, rfl, sSf, by omega, (yU hpz dd), cr⟩
 try simp only [ze] at au
 refine zh rfl (za (R0 fun _ => st (aS (Iv 2) (zd (zk (zG wT (show _ = (Iv 2 : Value) from rfl) ?_))))))
 refine ⟨2, rfl, ?_, ?_, (B.s3_)⟩
 first | decide | assumption
 intro h9
 exfalso; omega
 try simp only [ze] at ar
 refine zh rfl (za (R0 fun _ => st (aS (Iv 8) (zd (zk (zG wT (show _ = (Iv 8 : Value) from rfl) ?_))))))
 refine ⟨8, rfl, ?_, ?_, (B.s3_)⟩
 first | decide | assumption
 intro h9
 exfalso; omega
 try simp only [ze] at ax
 refine zh rfl (za (R0 fun _ => st (aS (Iv 8) (zd (zk (zG wT (show _ = (Iv 8 : Value) from rfl) ?_))))))
 refine ⟨8, rfl, ?_, ?_, (bm.s3_)⟩
 first | decide | assumption
 intro h9
 exfalso; omega
 have ak := tD ak
 refine zh rfl (zl (za (zw (za (R0 fun _ => st (aS (Iv 0) (zd (zw (yh (fun mq σ S => ∃ (j : Nat) (ρ : Env), mq = (d.types.getD k default).fields.length - j ∧ σ = ye ρ [(1, Ix b2 0), (3, Iw k), (4, Iw j)] ∧ (j ≤ (d.types.getD k default).fields.length) ∧ (∀ i, i < j → Vk (d.types.getD k default) ((d.types.getD k default).fields.getD i default)) ∧ Sep G W ((Blk b2 (d.cells dd0 dd1).toArray 25) :: Rs) S) ⟨0, _, rfl, sSf, Nat.zero_le _, (fun i h => absurd h (Nat.not_lt_zero i)), aw⟩ ?_)))))))))
 rintro m571 σ572 w570 ⟨j, ρl3, rfl, rfl, hkj, cS, Z⟩
 refine za (za (R0 fun _ => st (mV (Iw j) (st (yC rfl (st (lD dd0 mT rfl (zb (Z.b0) rfl) (st (mV (Iw k) ?_)))))))))
 have cs : k < d.types.length := bo
 refine st (zn (k := 1) (i := k) nT qT rfl hdd0.sl rfl cs (st (yZ rfl ?_)))
 have aa : k < d.types.length := bo
 obtain ⟨ag, m, bf⟩ := hdd0.typD aa
 have hsm577 : ((d.types.getD k default).fields).length * 48 ≤ 140737488355328 := m.small
 have br := Z.cells ag (hdd0.foot (ne_of_lt aa))
 refine st (lD aj rT rfl (br.get (j := 0) rfl) (st (zL (n := ((d.types.getD k default).fields).length) oT rfl m.sl (st (zF (k := .i64) (a := ((j : Nat) : Int)) (b := ((((d.types.getD k default).fields).length : Nat) : Int)) rfl rfl (zd ?_))))))
 cases ab : decide (((j : Nat) : Int) < ((((d.types.getD k default).fields).length : Nat) : Int))
 have ab := fD ab
 refine zg rfl (yi (yb (R0 fun _ => st (mV (Iw k) ?_))))
 have ct : InR ((k + 1 : Nat) : Int) := bo
 refine st (zV (r := ((k + 1 : Nat) : Int)) (k := .i64) (a := ((k : Nat) : Int)) (b := 1) rfl rfl (by rw [show (((k : Nat) : Int) + 1 : Int) = ((k + 1 : Nat) : Int) from bo]; exact zJ ct) (st (aS (Iw (k + 1)) (zd ?_))))
 exact ⟨_, by omega, k + 1, _, rfl, sSf, by omega, (yU hm (fun j9 h9 => cS j9 om)), Z⟩
 have ab := tD ab
 refine zh rfl (zl (za (zw (za ?_))))
 refine WD4 ((fun av => WF [fun vals S => Sep G W (av :: Rs) S, fun vals S => ∃ (l : Int), (vals 14 = (Iv l : Value)) ∧ (InR l) ∧ (l = 0 → Vk (d.types.getD k default) (((d.types.getD k default).fields).getD j default)) ∧ Sep G W (av :: Rs) S]) dj) (AF [Vl 0 (Ix b2 0), Vl 1 (dd0), Vl 2 (Iw k), Vl 3 (Ix (sb dd0) (so dd0 + k * 1)), Vl 4 (.agg ((d.types.getD k default).cells aj).toArray), Vl 5 (Ix b2 0), Vl 6 (dd0), Vl 7 (Iw k), Vl 8 (Ix (sb dd0) (so dd0 + k * 1)), Vl 9 (Ix (sb dd0) (so dd0 + k * 1)), Vl 10 (aj), Vl 11 (Iw j), Vl 12 (Ix (sb aj) (so aj + j * 4)), Vl 13 (.agg ((((d.types.getD k default).fields).getD j default).cells (zP W (sb aj) (so aj + j * 4 + 3))).toArray), fun _ => True, fun vals => ∀ (l : Int), vals 14 = (Iv l : Value) → vals 15 = (Iv l : Value)]) [[], [0], [], [0, 1, 2], (rg 4), [], [5], [], [5, 6, 7], [5, 6, 7, 8], [5, 6, 7, 8, 9], [], [5, 6, 7, 8, 9, 10, 11], [5, 6, 7, 8, 9, 10, 11, 12], (rg 14), (rg 15)] [14] [(0, 0), (0, 0), (0, 0), (0, 0), (0, 0), (0, 0), (0, 0), (0, 0), (0, 0), (0, 0), (0, 0), (0, 0), (0, 0), (0, 0), (0, 0), (1, 1)] Z ⟨fun _ _ _ _ _ _ _ => obl rfl (yC rfl dR), ob1 0 fun _ _ (cu : Sep _ _ _ _) cv => obl rfl (lD dd0 mT (cv 0 dc) (zb (cu.b0) rfl) dR), fun _ _ _ _ _ _ _ => obl rfl (mV (Iw k) dR), ?_, ?_, fun _ _ _ _ _ _ _ => obl rfl (yC rfl dR), ob1 0 fun _ _ (cw : Sep _ _ _ _) cx => obl rfl (lD dd0 mT (cx 5 dc) (zb (cw.b0) rfl) dR), fun _ _ _ _ _ _ _ => obl rfl (mV (Iw k) dR), ?_, fun _ _ _ _ _ _ cy => obl rfl (yZ (cy 8 dc) dR), ?_, fun _ _ _ _ _ _ _ => obl rfl (mV (Iw j) dR), ?_, ?_, ?_, ?_, trivial⟩ ?_ (hlocA := yW ⟨dA, dA, dA, dA, dA, dA, dA, dA, dA, dA, dA, dA, dA, dA, dT, fun vals c g h => fun l aV => (g 15 (.inl rfl)).trans (h l ((g 14 (.inr dc)).symm.trans aV)), trivial⟩)
 refine ob1 0 fun _ _ _ aW => (obl rfl ?_)
 have cz : k < d.types.length := bo
 exact zn (k := 1) (i := k) nT qT (aW 1 dc) hdd0.sl (aW 2 dc) cz dR
 refine ob1 0 fun _ _ (cC : Sep _ _ _ _) cD => (obl rfl ?_)
 have bs := cC.cells ag (hdd0.foot (ne_of_lt aa))
 exact zf (k := 1) sR qT rfl (cD 3 dc) bs dR
 refine ob1 0 fun _ _ _ aX => (obl rfl ?_)
 have cE : k < d.types.length := bo
 exact zn (k := 1) (i := k) nT qT (aX 6 dc) hdd0.sl (aX 7 dc) cE dR
 refine ob1 0 fun _ _ (cF : Sep _ _ _ _) cG => (obl rfl ?_)
 have bt := cF.cells ag (hdd0.foot (ne_of_lt aa))
 exact lD aj rT (cG 9 dc) (bt.get (j := 0) rfl) dR
 refine ob1 0 fun _ _ _ aY => (obl rfl ?_)
 have cH : j < ((d.types.getD k default).fields).length := bo
 exact zn (k := 4) (i := j) oT lT (aY 10 dc) m.sl (aY 11 dc) cH dR
 refine ob1 0 fun _ _ (cI : Sep _ _ _ _) cJ => (obl rfl ?_)
 have aZ : j < ((d.types.getD k default).fields).length := bo
 obtain ⟨bu, az, hoke833⟩ := m.fldD aZ
 have hsm835 : ((((d.types.getD k default).fields).getD j default).moves).length * 32 ≤ 140737488355328 := az.small
 have bv := cI.cells bu (m.foot (ne_of_lt aZ))
 exact zf (k := 4) tT lT rfl (cJ 12 dc) bv dR
 refine ob1 0 fun vals _ (ba : Sep _ _ _ _) bb => (obl rfl ?_)
 have bc : j < ((d.types.getD k default).fields).length := bo
 obtain ⟨bw, ah, bg⟩ := m.fldD bc
 have hsm707 : ((((d.types.getD k default).fields).getD j default).moves).length * 32 ≤ 140737488355328 := ah.small
 have hcw708 := ba.cells bw (m.foot (ne_of_lt bc))
 refine (zB (f := 47) (vals := [.agg ((d.types.getD k default).cells aj).toArray, .agg ((((d.types.getD k default).fields).getD j default).cells (zP W (sb aj) (so aj + j * 4 + 3))).toArray]) (cap := []) rfl (yE ⟨(bb 4 dc), (bb 13 dc), trivial⟩) Tryz.call47 (D_one (t := (d.types.getD k default)) (f := (((d.types.getD k default).fields).getD j default)) m bf ah bg ba) ?_)
 rintro _ w712 ⟨l, rfl, ai, H, cK⟩
 exact fun c g aH => ⟨(Exists.intro l (And.intro g (And.intro ai (And.intro H cK)))), trivial⟩
 refine ob1 1 fun _ _ cM _ => ?_
 obtain ⟨l, ac, ai, H, hS843⟩ := cM
 refine obl rfl (zR (v := Iv l) ac (fun c g aH => ⟨rfl, ?_⟩))
 intro e709q aV
 rw [aH 14 (by decide)] at aV; cases ac.symm.trans aV
 exact g
 intro vals w844 cN cO
 obtain ⟨l, ac, ai, H, bd⟩ := cN
 have de : vals 15 = (Iv l : Value) := cO 15 dc l ac
 refine zT (kv := [(1, Ix b2 0), (3, Iw k), (4, Iw j), (19, Iw j), (20, Ix b2 0), (21, dd0), (22, Iw k), (23, Ix (sb dd0) (so dd0 + k * 1)), (24, Ix (sb dd0) (so dd0 + k * 1)), (25, aj), (26, Iw (((d.types.getD k default).fields).length)), (27, .bool true), (5, Iv l)]) ⟨rfl, rfl, rfl, rfl, rfl, rfl, rfl, rfl, rfl, rfl, rfl, rfl, (by exact de), trivial⟩ (fun ρw844 => (zd (za (R0 fun _ => st (mV (Iv l) (st (yr (k := .i64) (a := l) (b := 0) rfl rfl (zd ?_))))))))
 cases R : !decide (l = 0)
 have R := yp R
 refine zg rfl (zl (R0 fun _ => st (mV (Iw j) ?_)))
 have cP : InR ((j + 1 : Nat) : Int) := bo
 refine st (zV (r := ((j + 1 : Nat) : Int)) (k := .i64) (a := ((j : Nat) : Int)) (b := 1) rfl rfl (by rw [show (((j : Nat) : Int) + 1 : Int) = ((j + 1 : Nat) : Int) from bo]; exact zJ cP) (st (aS (Iw (j + 1)) (zd ?_))))
 exact ⟨_, by omega, j + 1, _, rfl, sSf, by omega, (yU cS (H (by have h9 := R; omega))), bd⟩
 have R := zC R
 refine zh rfl (za (R0 fun _ => st (mV (Iv l) (st (aS (Iv l) (zd (zk (zG wT (show _ = (Iv l : Value) from rfl) ?_))))))))
 refine ⟨l, rfl, ?_, ?_, (bd.s1_)⟩
 first | decide | assumption
 intro h9
 exfalso; omega
 refine zh rfl (za (R0 fun _ => st (aS (Iv 3) (zd (zk (zG wT (show _ = (Iv 3 : Value) from rfl) ?_))))))
 refine ⟨3, rfl, ?_, ?_, (cR.s1_)⟩
 first | decide | assumption
 intro h9
 exfalso; omega

theorem Kh {G : Nat → Prop} {W w : World} {Rs : List HP} {x : Int} (hx : InR x) {n : Nat} (hn : 1 ≤ n ∧ n ≤ 281474976710656) (hS0 : Sep G W Rs w) : Ret Tryz.prog 8 [.int .i64 (x), .int .i64 ((n : Nat) : Int)] w (fun r w' => ∃ (q : Nat), r = (.int .i64 ((q : Nat) : Int) : Value) ∧ (q < n) ∧ Sep G W Rs w') := by
 refine zi (args := [Iv x, Iw n]) Tryz.func8 rfl rfl ?_
 refine za (R0 fun _ => st (aS (Iv 0) (zd (za (za (R0 fun _ => st (mV (Iw n) (st (zF (k := .i64) (a := ((n : Nat) : Int)) (b := 1) rfl rfl (zd ?_))))))))))
 cases d : decide (((n : Nat) : Int) < 1)
 have d := fD d
 refine zg rfl (zl (za (R0 fun _ => st (mV (Iv x) (st (mV (Iw n) ?_))))))
 have f : (0 : Int) < ((n : Nat) : Int) := by omega
 have h := Int.tmod_lt_of_pos x f; have i := Int.lt_tmod_of_pos x f
 obtain ⟨c, g⟩ : ∃ z, Int.tmod x ((n : Nat) : Int) = z := ⟨_, rfl⟩; rw [g] at h i
 refine st (zbn (r := c) rfl rfl f g (st (aS (Iv c) (zd (za (za (R0 fun _ => st (mV (Iv c) (st (zF (k := .i64) (a := c) (b := 0) rfl rfl (zd ?_)))))))))))
 cases e : decide (c < 0)
 have e := fD e
 refine zg rfl (zl (za (R0 fun _ => st (mV (Iv c) (st (aS (Iv c) (zd (zk (zG kY (show _ = (Iv c : Value) from rfl) ?_)))))))))
 refine ⟨(c).toNat, ?_, ?_, hS0⟩
 rw [Int.toNat_of_nonneg (by omega)]
 omega
 have e := tD e
 refine zh rfl (R0 fun _ => st (mV (Iv c) (st (mV (Iw n) ?_))))
 have j : InR (c + ((n : Nat) : Int)) := by omega
 refine st (zV (r := c + ((n : Nat) : Int)) (k := .i64) (a := c) (b := ((n : Nat) : Int)) rfl rfl (zJ j) (st (aS (Iv (c + ((n : Nat) : Int))) (zd (za (R0 fun _ => st (mV (Iv (c + ((n : Nat) : Int))) (st (aS (Iv (c + ((n : Nat) : Int))) (zd (zk (zG kY (show _ = (Iv (c + ((n : Nat) : Int)) : Value) from rfl) ?_))))))))))))
 refine ⟨(c + ((n : Nat) : Int)).toNat, ?_, ?_, hS0⟩
 rw [Int.toNat_of_nonneg (by omega)]
 omega
 have d := tD d
 refine zh rfl (za (R0 fun _ => st (aS (Iv 0) (zd (zk (zG kY (show _ = (Iv 0 : Value) from rfl) ?_))))))
 refine ⟨0, ?_, ?_, hS0⟩
 exfalso; omega
 omega

theorem QY {α : Type} {a b : List α} {d : α} (hl : a.length = b.length) (h : ∀ i, i < a.length → a.getD i d = b.getD i d) : a = b := by
  refine List.ext_getElem hl (fun i h1 h2 => ?_)
  have := h i h1
  rwa [zA _ h1, zA _ h2] at this
theorem VP {G : Nat → Prop} {W w : World} {Rs : List HP} {va : Value} {a : List Int} (ha : RdS W G va a) {vb : Value} {b : List Int} (hb : RdS W G vb b) (hS0 : Sep G W Rs w) : Ret Tryz.prog 42 [va, vb] w (fun r w' => r = (.bool (decide (a = b)) : Value) ∧ Sep G W Rs w') := by
 have has : _ * 8 ≤ _ := ha.small
 have hbs : _ * 8 ≤ _ := hb.small
 refine zi (args := [va, vb]) Tryz.func42 rfl rfl ?_
 refine za (R0 fun _ => st (aS (.bool false) (zd (za (za (R0 fun _ => st (mV va (st (zL (n := a.length) mR rfl ha.sl (st (mV vb (st (zL (n := b.length) mR rfl hb.sl (st (yr (k := .i64) (a := ((a.length : Nat) : Int)) (b := ((b.length : Nat) : Int)) rfl rfl (zd ?_))))))))))))))))
 cases d : !decide (((a.length : Nat) : Int) = ((b.length : Nat) : Int))
 have d := yp d
 refine zg rfl (zl (za (za (R0 fun _ => st (aS (Iv 0) (zd (zw (yh (fun mq σ I => ∃ (k : Nat) (ρ : Env), mq = a.length - k ∧ σ = ye ρ [(0, va), (1, vb), (5, Iw k)] ∧ (k ≤ a.length) ∧ (∀ i, i < k → a.getD i 0 = b.getD i 0) ∧ Sep G W Rs I) ⟨0, _, rfl, sSf, Nat.zero_le _, (fun i h => absurd h (Nat.not_lt_zero i)), hS0⟩ ?_))))))))
 rintro m3 σ4 w2 ⟨k, ρl1, rfl, rfl, hkk, hm, H⟩
 refine za (za (R0 fun _ => st (mV (Iw k) (st (mV va (st (zL (n := a.length) mR rfl ha.sl (st (zF (k := .i64) (a := ((k : Nat) : Int)) (b := ((a.length : Nat) : Int)) rfl rfl (zd ?_))))))))))
 cases f : decide (((k : Nat) : Int) < ((a.length : Nat) : Int))
 have f := fD f
 refine zg rfl (yi (yb (za (R0 fun _ => st (aS (.bool true) (zd (zk (zG lY (show _ = (.bool true : Value) from rfl) ?_))))))))
 refine ⟨?_, H⟩
 rw [decide_eq_true (QY (by omega) (fun i hi => hm i (by omega)))]
 have f := tD f
 refine zh rfl (zl (za (zw (za (WD4 (WF [fun vals I => Sep G W Rs I]) (AF [Vl 0 (va), Vl 1 (Iw k), Vl 2 (Ix (sb va) (so va + k * 1)), Vl 3 (Iv ((a.getD k 0))), Vl 4 (vb), Vl 5 (Iw k), Vl 6 (Ix (sb vb) (so vb + k * 1)), Vl 7 (Iv ((b.getD k 0))), Vl 8 (.bool (!decide ((a.getD k 0) = (b.getD k 0))))]) [[], [], [0, 1], [0, 1, 2], [], [], [4, 5], [4, 5, 6], (rg 8)] [] [(0, 0), (0, 0), (0, 0), (0, 0), (0, 0), (0, 0), (0, 0), (0, 0), (0, 0)] H ⟨fun _ _ _ _ _ _ _ => obl rfl (mV va dR), fun _ _ _ _ _ _ _ => obl rfl (mV (Iw k) dR), ?_, ?_, fun _ _ _ _ _ _ _ => obl rfl (mV vb dR), fun _ _ _ _ _ _ _ => obl rfl (mV (Iw k) dR), ?_, ?_, ob1 0 fun _ _ _ g => obl rfl (yr (k := .i64) (a := (a.getD k 0)) (b := (b.getD k 0)) (g 3 dc) (g 7 dc) dR), trivial⟩ ?_)))))
 refine ob1 0 fun _ _ _ q => (obl rfl ?_)
 have x : k < a.length := bo
 exact zn (k := 1) (i := k) mR mY (q 0 dc) ha.sl (q 1 dc) x dR
 refine ob1 0 fun _ _ (y : Sep _ _ _ _) z => (obl rfl ?_)
 have l : k < a.length := bo
 obtain ⟨s, hxe112⟩ := ha.intD l
 have t := y.cells s (ha.foot (ne_of_lt l))
 exact lD (Iv ((a.getD k 0))) kT (z 2 dc) (t.get (j := 0) rfl) dR
 refine ob1 0 fun _ _ _ m => (obl rfl ?_)
 have A : k < b.length := bo
 exact zn (k := 1) (i := k) mR mY (m 4 dc) hb.sl (m 5 dc) A dR
 refine ob1 0 fun _ _ (B : Sep _ _ _ _) C => (obl rfl ?_)
 have o : k < b.length := bo
 obtain ⟨u, hxe145⟩ := hb.intD o
 have v := B.cells u (hb.foot (ne_of_lt o))
 exact lD (Iv ((b.getD k 0))) kT (C 6 dc) (v.get (j := 0) rfl) dR
 intro vals w157 D E
 have p : Sep _ _ _ _ := D
 have J := E 8 dc
 refine zT (kv := [(0, va), (1, vb), (5, Iw k), (11, Iw k), (12, va), (13, Iw a.length), (14, .bool true), (25, .bool (!decide ((a.getD k 0) = (b.getD k 0))))]) ⟨rfl, rfl, rfl, rfl, rfl, rfl, rfl, (by exact J), trivial⟩ (fun ρw157 => (zd ?_))
 cases c : !decide ((a.getD k 0) = (b.getD k 0))
 have c := yp c
 refine zg rfl (zl (R0 fun _ => st (mV (Iw k) ?_)))
 have F : InR ((k + 1 : Nat) : Int) := bo
 refine st (zV (r := ((k + 1 : Nat) : Int)) (k := .i64) (a := ((k : Nat) : Int)) (b := 1) rfl rfl (by rw [show (((k : Nat) : Int) + 1 : Int) = ((k + 1 : Nat) : Int) from bo]; exact zJ F) (st (aS (Iw (k + 1)) (zd ?_))))
 exact ⟨_, by omega, k + 1, _, rfl, sSf, by omega, (yU hm om), p⟩
 have c := zC c
 refine zh rfl (za (R0 fun _ => st (aS (.bool false) (zd (zk (zG lY (show _ = (.bool false : Value) from rfl) ?_))))))
 refine ⟨?_, p⟩
 rw [decide_eq_false (fun e => by subst e; omega)]
 have d := zC d
 refine zh rfl (za (R0 fun _ => st (aS (.bool false) (zd (zk (zG lY (show _ = (.bool false : Value) from rfl) ?_))))))
 refine ⟨?_, hS0⟩
 rw [decide_eq_false (fun e => by subst e; omega)]

end Go.Proofs.YtbbabhaalmkbkaaGreatDoor
namespace Go.Proofs.YtbbabhaalmkbkaaGreatDoor
open Go.RowKit
section
variable {G : Nat → Prop} {W w : World} {As : List HP} {T Ti : TypeId} {v : Value} {sh : List CelS} {l : List Cel}
theorem CelW.rowP {f : Nat → Prop} (h : (CelW v T Ti l).p w f) : (RowE (α := Cel) own T v l).p w f := by
  obtain ⟨sh, ⟨hlen, hn⟩, hA⟩ := h
  obtain ⟨fs, q1, q2⟩ := hA
  obtain ⟨⟨css, hE, hown, hrow, hsm⟩, hf0⟩ := q1 0 _ rfl
  obtain ⟨hSt, hf1⟩ := q1 1 _ rfl
  have q2' := q2 0 1 (by simp) (by simp) (by simp)
  have hcl := hE.length
  refine ⟨css, EP.of_at (by omega) (fun i h1 h2 => ?_), by rw [← hlen]; exact hown, fun b hb => (hf0 b (hrow b hb)).1, by rw [← hlen]; exact hsm⟩
  have hs : i < sh.length := by omega
  obtain ⟨hcs, hin, hone⟩ : css[i] = sh[i].cells ∧ InR sh[i].n ∧ sh[i].v.oneCell' = true := (EP.at2 hE i h1 hs).imp id (fun h => ⟨h.n, h.one⟩)
  have hr : (RowE (α := Int) own Ti (sh.getD i default).v (l.getD i default).set).p w (fs 1) := Star.at_ hSt (SetRows.get hs h2)
  have hsoft := RowE.soft hr
  have hni := hn i h2
  rw [zA _ hs, zA _ h2] at hsoft hni
  refine ⟨sh[i].v, ?_, hsoft.mono (fun b hb hlt => ⟨rfl, ⟨(hf1 b hb.1).1, fun e => q2' b (hrow b e) hb.1⟩, hb.2⟩), ⟨by rw [← hni]; exact hin⟩⟩
  rw [hcs]
  show [Value.int .i64 sh[i].n, sh[i].v] = _
  rw [hni]; rfl
theorem CelW.rd {f : Nat → Prop} (h : (CelW v T Ti l).p w f) : RdS w f v l := RowE.rd (CelW.rowP h)
end
end Go.Proofs.YtbbabhaalmkbkaaGreatDoor
set_option maxRecDepth 8000
namespace Go.Proofs.YtbbabhaalmkbkaaGreatDoor
open Go.Proofs Go.RowKit

end Go.Proofs.YtbbabhaalmkbkaaGreatDoor
set_option maxRecDepth 8000
set_option maxHeartbeats 4000000
namespace Go.Proofs.YtbbabhaalmkbkaaGreatDoor
open Go.Proofs Go.RowKit

theorem Un {t : Typ} : Right t (List.replicate t.fields.length ⟨0, []⟩) := by
  have key : ∀ i, i < (List.replicate t.fields.length (⟨0, []⟩ : Cel)).length → (List.replicate t.fields.length (⟨0, []⟩ : Cel)).getD i default = ⟨0, []⟩ := by
    intro i hi
    rw [zA _ hi, List.getElem_replicate]
  refine ⟨by simp, fun i hi _ => ?_, fun i hi _ => ?_, fun i hi _ => ?_, fun i hi => ?_, fun i hi => ?_⟩ <;> rw [key i hi]
  · exact Int.le_refl _
  · simp
  · exact List.Pairwise.nil
theorem zaL {G : Nat → Prop} {W w : World} {Rs : List HP} {t : Typ} {dt0 : Value} (hdt0 : RdS W G dt0 t.fields) (ot : t.Ok) (hS0 : Sep G W Rs w) : Ret Tryz.prog 13 [.agg (t.cells dt0).toArray] w (fun r w' => ∃ (v : Value), r = (v : Value) ∧ Sep G W ((RowE (α := Cel) own 99 v (List.replicate t.fields.length (⟨0, []⟩ : Cel))) :: Rs) w') := by
 have hdt0s : _ * 48 ≤ _ := hdt0.small
 refine zi (args := [.agg (t.cells dt0).toArray]) Tryz.func13 rfl rfl ?_
 refine za (R0 fun _ => st (zH (v := .agg (t.cells dt0).toArray) rfl ?_))
 intro w3 b2 e
 have c := hS0.new e
 refine st (aS (Iz) (zd (za (R0 fun _ => st (yZ rfl (st (lD dt0 rT rfl (zb (c.b0) rfl) (st (zL (n := t.fields.length) oT rfl hdt0.sl (st (Yb (α := Cel) (T := 99) (bytes := 32) (n := t.fields.length) (x1 := (⟨0, []⟩ : Cel)) Tryz.underlying45 ⟨_, _, rfl, rfl, rfl, rfl, rfl, fun _ _ => ⟨_, rfl, RdS.nil _ _, ⟨by decide⟩⟩⟩ rfl rfl rfl (by show t.fields.length * 32 ≤ 140737488355328; omega) ?_)))))))))))
 intro f b g he7 hl8 h
 let i := Iy b t.fields.length t.fields.length
 have a : Sep G W ((RowE (α := Cel) own 99 i (List.replicate t.fields.length (⟨0, []⟩ : Cel))) :: (Blk b2 (t.cells dt0).toArray 53) :: Rs) f := c.made g h
 have d := a.r0
 have hr12s : _ * 32 ≤ _ := d.2
 refine st (aS i (zd (zk (zG Tryz.results13 (show _ = (i : Value) from rfl) ?_))))
 refine ⟨i, rfl, (a.s2_a)⟩

instance (t : Typ) (c : List Cel) (f op arg : Int) : Decidable (Xz t c f op arg) := by unfold Xz Asc; infer_instance
end Go.Proofs.YtbbabhaalmkbkaaGreatDoor
namespace Go.Proofs.YtbbabhaalmkbkaaGreatDoor
open Go.ChangeShapes Go.WideShapes Go.ChangeAt Go.RowKit

theorem zad {P : Program} {W : World} {name : String} {zs : List Int} {g : Nat} (hg : P.globalNamed name = some g) (h : Lib.TabIs P W name .i64 zs) (hz : ∀ z ∈ zs, InR z) (hs : zs.length * 8 ≤ 140737488355328) :
    RdS W (xi W) (.slice (some ⟨g, 0, none⟩) zs.length zs.length) zs := by
  have hc : ∀ i, W.cell? ⟨g, i, none⟩ = (zs.map fun z => Value.int .i64 z)[i]? := fun i => by
    rw [World.var?_cell hg h i]; simp
  refine ⟨⟨_, _, rfl, Nat.le_refl _, fun _ => ⟨_, _, rfl⟩⟩, fun hne => ?_, hs, fun i hi => ?_⟩
  · have h0 : 0 < zs.length := List.length_pos_iff.2 hne
    have h1 := hc 0
    rw [List.getElem?_eq_getElem (by simpa using h0)] at h1
    exact Zi h1
  · refine ⟨[.int .i64 zs[i]], fun j hj => ?_, ⟨rfl, hz _ (List.getElem_mem hi)⟩⟩
    obtain rfl : j = 0 := by simp at hj; omega
    have h1 := hc i
    rw [List.getElem?_eq_getElem (by simpa using hi)] at h1
    have e : (so (.slice (some ⟨g, 0, none⟩) zs.length zs.length) + i * Rep.k Int + 0) = i := by
      show 0 + i * 1 + 0 = i
      omega
    show W.cell? ⟨g, so (.slice (some ⟨g, 0, none⟩) zs.length zs.length) + i * Rep.k Int + 0, none⟩ = _
    rw [e, h1]
    simp

theorem XG {P : Program} {d : Option Tmp} {ty : TypeId} {pos : String} {af : Array Edge} {g : Option (Nat × Bool)} {σ : Env} {w : World} {K : Value → World → Prop} {t e : TypeId} {k n b o off : Nat} {i : Int} {x y : Operand} {ki : IntKind} (hU : P.underlying t = some (.array n e)) (hS : ∀ w, (sizeOf e).run P w = .ok k w) (hx : ev σ x = .pointer (some ⟨b, o, none⟩)) (hy : ev σ y = .int ki i)
    (hi : 0 ≤ i ∧ i < n) (ho : i.toNat * k = off) (h : K (.pointer (some ⟨b, o + off, none⟩)) w) : opV P ⟨d, .indexAddr t x y, ty, pos, af, g⟩ σ w K := by
  obtain ⟨m, rfl⟩ := Int.eq_ofNat_of_zero_le hi.1
  exact XH (i := m) hU hS hx hy (by omega) (by simpa using ho) h

theorem YI {H : Type} {enc : TypeId × Value → H} {C : Checked} {os : Os} {f : FuncId} {fn : Func} {s : ChangeSpec} {tb : TypeId} {laid : List (String × DataW Unit)}
    (own : ownKnob C.prog.godebug = none) (started : os.Started) (noInit : C.prog.inits.idxOf? f = none) (hfn : C.prog.funcs[f]? = some fn)
    (hl : laidOutB C.prog = true) (hrt : fn.resultTypes = #[tb]) (htb : C.prog.underlying tb = some .bool) (hsv : s.vars = [])
    (hsf : ∀ ds : List (DataW H), ds.length = fn.params.size → s.fn H ds = { results := [.lit (.bool true)], args := ds })
    (hps : ∀ t ∈ fn.params.toList, C.prog.readableRec t = true ∧ t < C.prog.types.size)
    (witness : ∃ (w : World) (tape : Tape) (i : Input), w.os = os ∧ (w.forCall tape i).Shaped C.prog ∧ i.vars = [] ∧ Input.okWide C.prog (w.forCall tape i) .any w.heap.size f i ∧
      ((s.pre enc C.prog fn [] false (w.forCall tape i).memory i.args ∧ laidMetH C.prog laid (w.forCall tape i).memory) ∧ sizedMet enc C.prog fn (OpenSpec.ofChange s) false (w.forCall tape i).memory i.args) ∧ ({} : Assume).holds C.prog (lone (Frame.enter C.prog f i.args .normal) [] (w.forCall tape i)))
    (contract : ∀ (W : World) (base : Nat) (args : Array Value) (ds : List (DataW H)) (ps : List MemPlace),
      (∀ (j : Nat) t v, fn.params[j]? = some t → args[j]? = some v → Value.okWide C.prog W .any base t v) →
      DataW.TrodAll enc C.prog W 0 (fun _ => true) true fn.params.toList args.toList ds ps →
      (∀ (j : Nat) t d, fn.params.toList[j]? = some t → ds[j]? = some d → Zo C.prog t d) → laidMetH C.prog laid W →
      Ret C.prog f args.toList W (fun r w' => r = .bool true ∧ Ext W w')) :
    ReturnsInHanded {} C os f .any (fun w args => (s.pre enc C.prog fn [] false w args ∧ laidMetH C.prog laid w) ∧ sizedMet enc C.prog fn (OpenSpec.ofChange s) false w args) (s.post enc C.prog fn false true false false) := by
  refine returnsInHanded_of_change_and (C := C) (X := fun w _ => laidMetH C.prog laid w) (fun _ _ _ hh h => h.of_heap hh) own started noInit hfn witness ?_
  intro W base args ds gs before hval hW _ hsz hL _
  have hW' := hW
  obtain ⟨p, q, hA, hV, rfl, hfz, hnd⟩ := hW
  have hlt := hW'.lt
  rw [hsv] at hV
  obtain ⟨rfl, rfl⟩ := trodVars_none hV
  simp only [List.append_nil] at hW' hlt
  have hlen : ds.length = fn.params.size := by
    have : ∀ {ts : List TypeId} {vs : List Value} {ds : List (DataW H)} {ps : List MemPlace}, DataW.TrodAll enc C.prog W 0 (fun _ => true) true ts vs ds ps → ds.length = ts.length := by
      intro ts
      induction ts with
      | nil => intro vs ds ps h; obtain ⟨_, rfl, _⟩ := trodAll_nil h; rfl
      | cons t ts ih => intro vs ds ps h; obtain ⟨_, _, _, ds1, _, _, _, rfl, _, _, h2⟩ := trodAll_cons h; simp [ih h2]
    simpa using this hA
  have hc := contract W base args ds p hval hA (fun j t d ht hd n hn => by
    have := List.all_eq_true.1 hsz n (by
      rw [List.append_nil]
      refine DataW.weights_mem_each (j := j) (t := t) ?_ hd n hn
      rw [List.getElem?_append_left (by exact (List.getElem?_eq_some_iff.1 ht).1)]
      exact ht)
    simpa using this) hL
  have hc' : Calls C.prog f args W fun e w' => ∃ v, e = .returned v ∧ v = .bool true ∧ Ext W w' := by
    have : args.toList.toArray = args := by simp
    rw [← this]; exact hc
  refine hc'.mono fun e W' ⟨v, he, hv, hx⟩ => ⟨v, he, ?_⟩
  subst hv
  have hb := hx.below
  refine ⟨ds, [], p, [], p, [], hW', ?_, ?_, ?_, hb.frame _, fun h => by cases h⟩
  · rw [List.append_nil, hsf ds hlen, hrt]
    exact trodAll_mk1 (shut_bool htb _)
  · rw [List.append_nil, hsf ds hlen]
    exact ZR hl hb hps hA (fun x hx => hlt x hx)
  · rw [List.append_nil, hsf ds hlen, hsv]
    rfl
end Go.Proofs.YtbbabhaalmkbkaaGreatDoor
set_option maxRecDepth 8000
set_option maxHeartbeats 4000000
namespace Go.Proofs.YtbbabhaalmkbkaaGreatDoor
open Go.Proofs Go.RowKit

def kindsL : List Int := [0, 1, 2, 3, 3, 4]
theorem UB : kindsL.length = 6 := rfl
def yD (d : Dcl) (ty f : Int) : Bool := (decide (0 ≤ ty) && decide (ty ≤ ((d.types.length : Nat) : Int) - 1)) && (decide (0 ≤ f) && decide (f ≤ (((d.types.getD ty.toNat default).fields.length : Nat) : Int) - 1))
def yc (d : Dcl) (ty f : Int) : Fld := if yD d ty f = true then (d.types.getD ty.toNat default).fields.getD f.toNat default else ⟨0, 0, false, []⟩
def yL (d : Dcl) (ty f op arg : Int) : Int :=
  if (!yD d ty f) = true then 8 else if (!(decide (1 ≤ op) && decide (op ≤ 5)) || !decide (kindsL.getD op.toNat 0 = (yc d ty f).kind)) = true then 2
  else if (decide (op = 1) && decide (arg = 0)) = true then 1 else if (decide (op = 5) && !(decide (0 ≤ arg) && decide (arg ≤ (((yc d ty f).moves.length : Nat) : Int) - 1))) = true then 1 else 0
theorem Wy {d : Dcl} {ty f op arg : Int} (h : yL d ty f op arg = 0) : 0 ≤ ty ∧ ty < d.types.length ∧ Fits (d.types.getD ty.toNat default) f op arg := by
  unfold yL at h
  split at h
  · cases h
  rename_i h1
  split at h
  · cases h
  rename_i h2
  split at h
  · cases h
  rename_i h3
  split at h
  · cases h
  rename_i h4
  have hB : yD d ty f = true := by simpa using h1
  have hz : yc d ty f = (d.types.getD ty.toNat default).fields.getD f.toNat default := by unfold yc; rw [hB]; rfl
  rw [hz] at h2 h4
  unfold yD at hB
  simp only [Bool.and_eq_true, decide_eq_true_eq] at hB
  simp only [Bool.or_eq_true, Bool.not_eq_true', Bool.and_eq_false_iff, Bool.and_eq_true, decide_eq_true_eq, decide_eq_false_iff_not, not_or, Decidable.not_not, not_and] at h2 h3 h4
  refine ⟨hB.1.1, by omega, ⟨hB.2.1, by omega, ?_⟩⟩
  have h5 : op = 1 ∨ op = 2 ∨ op = 3 ∨ op = 4 ∨ op = 5 := by omega
  have h6 := h2.2
  unfold xd
  rcases h5 with rfl | rfl | rfl | rfl | rfl
  · exact .inl ⟨rfl, h6.symm⟩
  · exact .inr (.inl ⟨rfl, h6.symm⟩)
  · exact .inr (.inr (.inl ⟨.inl rfl, h6.symm⟩))
  · exact .inr (.inr (.inl ⟨.inr rfl, h6.symm⟩))
  · have := h4 rfl
    exact .inr (.inr (.inr ⟨rfl, h6.symm, by omega, by omega⟩))
instance : Flat Mv := ⟨fun h => h⟩
theorem Yk {G : Nat → Prop} {W w : World} {Rs : List HP} {x : Int} (hx : InR x) {lo : Int} (hlo : InR lo) {hi : Int} (hhi : InR hi) (hS0 : Sep G W Rs w) : Ret Tryz.prog 73 [.int .i64 (x), .int .i64 (lo), .int .i64 (hi)] w (fun r w' => r = (.bool ((decide (lo ≤ x) && decide (x ≤ hi))) : Value) ∧ Sep G W Rs w') := by
 refine zi (args := [Iv x, Iv lo, Iv hi]) Tryz.func73 rfl rfl ?_
 refine za (R0 fun _ => st (aS (.bool false) (zd (za (zv kr (st (mV (Iv x) (st (mV (Iv lo) (st (xo (k := .i64) (a := x) (b := lo) rfl rfl (st (mV (.bool (decide (lo ≤ x))) (stc (V := Iv x) rfl rfl (fun d => ?_) ?_))))))))))))))
 have hl2 := tD d
 exact mV (Iv x) ⟨rfl, rfl⟩
 refine stc (V := Iv hi) rfl rfl (fun e => ?_) ?_
 have hl4 := tD e
 exact mV (Iv hi) ⟨rfl, rfl⟩
 refine stc (V := .bool (decide (x ≤ hi))) rfl rfl (fun c => ?_) ?_
 have hl6 := tD c
 exact zbd (k := .i64) (a := x) (b := hi) (if_pos c) (if_pos c) ⟨rfl, rfl⟩
 refine st (zy (b := decide (lo ≤ x)) (b' := decide (x ≤ hi)) rfl (fun hbp => (if_pos hbp)) (st (aS (.bool ((decide (lo ≤ x)) && (decide (x ≤ hi)))) (zd (zk (zG Tryz.results73 (show _ = (.bool ((decide (lo ≤ x)) && (decide (x ≤ hi))) : Value) from rfl) ?_))))))
 refine ⟨rfl, hS0⟩

theorem XW {G : Nat → Prop} {W w : World} {Rs : List HP} {vl : Value} {l : List Mv} (hl : RdS W G vl l) (hS0 : Sep G W Rs w) : Ret Tryz.prog 88 [vl] w (fun r w' => ∃ (v : Value), r = (v : Value) ∧ Sep G W ((RowE (α := Mv) own 136 v l) :: Rs) w') := by
 have hls : _ * 32 ≤ _ := hl.small
 refine zi (args := [vl]) Tryz.func88 rfl rfl ?_
 refine za (R0 fun _ => st (aS (Iz) (zd (za (za (R0 fun _ => st (mV vl (st (xY (v := vl) pT rfl hl.sl (zd ?_))))))))))
 cases i : xP vl
 refine zg rfl (zl (za (R0 fun _ => st (zS (k := 4) (parts' := []) (c := #[]) pT uT tR dc rfl kr ?_))))
 intro o p j
 refine st (mV vl ?_)
 have d : Sep G W ((RowE (α := Mv) own 136 (Iy p 0 0) ([] : List Mv)) :: Rs) o := Sep.blkRow (src := own) (l := ([] : List Mv)) (css := []) (hS0.new j) rfl trivial yqa
 have e := d.r0
 have hr10s : _ * 32 ≤ _ := e.2
 refine st (xJ (src := own) (bytes := 32) d zaI rfl rfl hl yqb rfl (hq' := fun _ _ h _ _ => Xv h) ?_)
 intro b q a
 have a : Sep G W ((RowE (α := Mv) own 136 b l) :: Rs) q := a
 have f := a.r0
 have hr11s : _ * 32 ≤ _ := f.2
 refine st (aS b (zd (zk (zG tY (show _ = (b : Value) from rfl) ?_))))
 refine ⟨b, rfl, a⟩
 have m := Ym hl.sl i
 refine zh rfl (za (R0 fun _ => st (aS (Iz) (zd (zk (zG tY (show _ = ((Iz) : Value) from rfl) ?_))))))
 have g : Sep G W ((RowE (α := Mv) own 136 (Iz) ([] : List Mv)) :: Rs) w := hS0.rowNil own 136
 have n : l = [] := List.length_eq_zero_iff.1 m
 subst n
 refine ⟨(Iz), rfl, g⟩

theorem zaz {G : Nat → Prop} {W w : World} {Rs : List HP} {d : Dcl} {dd0 : Value} (hdd0 : RdS W G dd0 d.types) {dd1 : Value} (hdd1 : RdS W G dd1 d.projs) (od : d.Ok) {ty : Int} (hty : InR ty) {f : Int} (hf : InR f) (hS0 : Sep G W Rs w) : Ret Tryz.prog 72 [.agg (d.cells dd0 dd1).toArray, .int .i64 (ty), .int .i64 (f)] w (fun r w' => ∃ (v : Value), r = (.tuple #[.agg ((yc d ty f).cells v).toArray, .bool ((yD d ty f))] : Value) ∧ ((yc d ty f).Ok) ∧ Sep G W ((RowE (α := Mv) own 136 v ((yc d ty f).moves)) :: Rs) w') := by
 let ag := zP W (sb dd0) (so dd0 + ty.toNat * 1 + 0)
 let aE := zP W (sb ag) (so ag + f.toNat * 4 + 3)
 have hdd0s : _ * 24 ≤ _ := hdd0.small
 have hdd1s : _ * 40 ≤ _ := hdd1.small
 refine zi (args := [.agg (d.cells dd0 dd1).toArray, Iv ty, Iv f]) Tryz.func72 rfl rfl ?_
 refine za (R0 fun _ => st (zH (v := .agg (d.cells dd0 dd1).toArray) rfl ?_))
 intro w3 b2 aI
 refine st (zr vT ?_)
 intro w7 b6 aJ
 have ae := (hS0.new aI).new aJ
 refine st (aS (.bool false) (zd (za (za (zv kr (st (mV (Iv ty) (st (yC rfl (st (lD dd0 mT rfl (zb (ae.b1) rfl) (st (zL (n := d.types.length) nT rfl hdd0.sl ?_)))))))))))))
 have af : InR (((d.types.length : Nat) : Int) - 1) := by omega
 refine st (YV (r := ((d.types.length : Nat) : Int) - 1) (k := .i64) (a := ((d.types.length : Nat) : Int)) (b := 1) rfl rfl (zJ af) (st (cL rR (Yk (x := ty) (lo := 0) (hi := ((d.types.length : Nat) : Int) - 1) hty dc af ae) ?_)))
 rintro _ w10 ⟨rfl, e⟩
 refine st (yH (a := (decide (0 ≤ ty) && decide (ty ≤ (((d.types.length : Nat) : Int) - 1)))) rfl (st (mV (.bool (!(decide (0 ≤ ty) && decide (ty ≤ (((d.types.length : Nat) : Int) - 1))))) (stc (V := Iv f) rfl rfl (fun ah => ?_) ?_))))
 have ai := ah
 try simp only [ze] at ai
 exact mV (Iv f) ⟨rfl, rfl⟩
 refine stc (V := Ix b2 0) rfl rfl (fun aj => ?_) ?_
 have ak := aj
 try simp only [ze] at ak
 exact yC rfl ⟨rfl, rfl⟩
 refine stc (V := dd0) rfl rfl (fun F => ?_) ?_
 have al := F
 try simp only [ze] at al
 exact lD dd0 mT (if_pos F) (zb (e.b1) rfl) ⟨rfl, rfl⟩
 refine stc (V := Iv ty) rfl rfl (fun am => ?_) ?_
 have an := am
 try simp only [ze] at an
 exact mV (Iv ty) ⟨rfl, rfl⟩
 refine stc (V := Ix (sb dd0) (so dd0 + ty.toNat * 1)) rfl rfl (fun t => ?_) ?_
 have ao := t
 try simp only [ze] at ao
 have hi22 : ty.toNat < d.types.length := bo
 exact zz (k := 1) (i := ty) nT qT (if_pos t) hdd0.sl (if_pos t) ⟨by omega, by omega⟩ ⟨rfl, rfl⟩
 refine stc (V := Ix (sb dd0) (so dd0 + ty.toNat * 1)) rfl rfl (fun H => ?_) ?_
 have ap := H
 try simp only [ze] at ap
 exact yZ (if_pos H) ⟨rfl, rfl⟩
 refine stc (V := ag) rfl rfl (fun I => ?_) ?_
 have aq := I
 try simp only [ze] at aq
 have J : ty.toNat < d.types.length := bo
 obtain ⟨X, D, hoke27⟩ := hdd0.typD J
 have hsm29 : ((d.types.getD ty.toNat default).fields).length * 48 ≤ 140737488355328 := D.small
 have Y := e.cells X (hdd0.foot (ne_of_lt J))
 exact lD ag rT (if_pos I) (Y.get (j := 0) rfl) ⟨rfl, rfl⟩
 refine stc (V := Iw (((d.types.getD ty.toNat default).fields).length)) rfl rfl (fun K => ?_) ?_
 have ar := K
 try simp only [ze] at ar
 have L : ty.toNat < d.types.length := bo
 obtain ⟨Z, o, hoke33⟩ := hdd0.typD L
 have hsm35 : ((d.types.getD ty.toNat default).fields).length * 48 ≤ 140737488355328 := o.small
 have hcw36 := e.cells Z (hdd0.foot (ne_of_lt L))
 exact zL (n := ((d.types.getD ty.toNat default).fields).length) oT (if_pos K) o.sl ⟨rfl, rfl⟩
 refine stc (V := Iv (((((d.types.getD ty.toNat default).fields).length : Nat) : Int) - 1)) rfl rfl (fun M => ?_) ?_
 have au := M
 try simp only [ze] at au
 have N : ty.toNat < d.types.length := bo
 obtain ⟨aa, E, hoke39⟩ := hdd0.typD N
 have hsm41 : ((d.types.getD ty.toNat default).fields).length * 48 ≤ 140737488355328 := E.small
 have hcw42 := e.cells aa (hdd0.foot (ne_of_lt N))
 have av : InR (((((d.types.getD ty.toNat default).fields).length : Nat) : Int) - 1) := by omega
 exact YV (r := ((((d.types.getD ty.toNat default).fields).length : Nat) : Int) - 1) (k := .i64) (a := ((((d.types.getD ty.toNat default).fields).length : Nat) : Int)) (b := 1) (if_pos M) rfl (zJ av) ⟨rfl, rfl⟩
 cases u : !(decide (0 ≤ ty) && decide (ty ≤ (((d.types.length : Nat) : Int) - 1)))
 have hg44r := u
 try simp only [ze] at u
 have y : ty.toNat < d.types.length := bo
 obtain ⟨C, g, hoke45⟩ := hdd0.typD y
 have hsm47 : ((d.types.getD ty.toNat default).fields).length * 48 ≤ 140737488355328 := g.small
 have hcw48 := e.cells C (hdd0.foot (ne_of_lt y))
 refine sty rfl rfl (cL rR (Yk (x := f) (lo := 0) (hi := ((((d.types.getD ty.toNat default).fields).length : Nat) : Int) - 1) hf dc om e) ?_)
 rintro _ w49 ⟨rfl, h⟩
 refine sty rfl rfl (yH (a := (decide (0 ≤ f) && decide (f ≤ (((((d.types.getD ty.toNat default).fields).length : Nat) : Int) - 1)))) rfl (st (zZ (v := .bool (!(decide (0 ≤ f) && decide (f ≤ (((((d.types.getD ty.toNat default).fields).length : Nat) : Int) - 1))))) rfl rfl (zd ?_))))
 cases O : !(decide (0 ≤ f) && decide (f ≤ (((((d.types.getD ty.toNat default).fields).length : Nat) : Int) - 1)))
 try simp only [ze] at O
 refine zg rfl (zl (za (R0 fun _ => st (yC rfl (st (lD dd0 mT rfl (zb (h.b1) rfl) (st (mV (Iv ty) ?_))))))))
 have hi52 : ty.toNat < d.types.length := bo
 refine st (zz (k := 1) (i := ty) nT qT rfl hdd0.sl rfl ⟨by omega, by omega⟩ (st (yZ rfl ?_)))
 have ab := h.cells C (hdd0.foot (ne_of_lt y))
 refine st (lD ag rT rfl (ab.get (j := 0) rfl) (st (mV (Iv f) ?_)))
 have hi55 : f.toNat < ((d.types.getD ty.toNat default).fields).length := bo
 refine st (zz (k := 4) (i := f) oT lT rfl g.sl rfl ⟨by omega, by omega⟩ ?_)
 have P : f.toNat < ((d.types.getD ty.toNat default).fields).length := bo
 obtain ⟨ac, m, p⟩ := g.fldD P
 have hsm58 : ((((d.types.getD ty.toNat default).fields).getD f.toNat default).moves).length * 32 ≤ 140737488355328 := m.small
 have ad := h.cells ac (g.foot (ne_of_lt P))
 refine st (zf (k := 4) tT lT rfl rfl ad (st (zr vT ?_)))
 intro w62 b61 aw
 have Q := h.new aw
 refine stn (zp (v := .agg ((((d.types.getD ty.toNat default).fields).getD f.toNat default).cells aE).toArray) (c' := ((((d.types.getD ty.toNat default).fields).getD f.toNat default).cells aE).toArray) lT rfl rfl (Q.b0) (zW ⟨rfl, rfl, rfl, m.sl.one, trivial⟩) yqc rfl ?_)
 intro w64 ax
 have R := Q.pt0 ax
 refine zd (za (R0 fun _ => st (yF rfl (st (lD aE sT rfl (zb (R.b0) rfl) (st (cL Tryz.call88 (XW (l := (((d.types.getD ty.toNat default).fields).getD f.toNat default).moves) (vl := aE) m R) ?_)))))))
 rintro q w68 ⟨_, rfl, z⟩
 have A := z.r0
 have hr70s : _ * 32 ≤ _ := A.2
 refine st (yF rfl (stn (yn (v := q) (c := [Iv ((((d.types.getD ty.toNat default).fields).getD f.toNat default).kind), Iv ((((d.types.getD ty.toNat default).fields).getD f.toNat default).policy), .bool ((((d.types.getD ty.toNat default).fields).getD f.toNat default).floor), aE]) (c' := [Iv ((((d.types.getD ty.toNat default).fields).getD f.toNat default).kind), Iv ((((d.types.getD ty.toNat default).fields).getD f.toNat default).policy), .bool ((((d.types.getD ty.toNat default).fields).getD f.toNat default).floor), q]) rY rfl rfl (z.b1) A.1.one rfl rfl ?_)))
 intro w71 ay
 have az : Fld.Ok (((d.types.getD ty.toNat default).fields).getD f.toNat default) := ⟨(show InR ((((d.types.getD ty.toNat default).fields).getD f.toNat default).kind) from p.kind), (show InR ((((d.types.getD ty.toNat default).fields).getD f.toNat default).policy) from p.policy)⟩
 have B := z.pt1 ay
 refine zd (za (R0 fun _ => st (zf (k := 4) tT lT rfl rfl (CellsAt.all (B.b1)) (stn (zp (v := .agg ((((d.types.getD ty.toNat default).fields).getD f.toNat default).cells q).toArray) (c' := ((((d.types.getD ty.toNat default).fields).getD f.toNat default).cells q).toArray) lT rfl rfl (B.b2) (zW ⟨rfl, rfl, rfl, A.1.one, trivial⟩) yqc rfl ?_)))))
 intro w75 aA
 have S := B.pt2 aA
 refine st (aS (.bool true) (zd (zk (Zv (b := b6) nY tT lT rfl rfl (CellsAt.all (S.b2)) (show _ = (.bool true : Value) from rfl) ?_))))
 have s : yD d ty f = true := by unfold yD; simp only [Bool.and_eq_true, decide_eq_true_eq]; omega
 have hz : yc d ty f = (((d.types.getD ty.toNat default).fields).getD f.toNat default) := by unfold yc; rw [s]; rfl
 rw [hz, s]
 refine ⟨q, rfl, ?_, (S.s4_a)⟩
 exact az
 try simp only [ze] at O
 refine zh rfl (za (R0 fun _ => ?_))
 have aB : Fld.Ok (⟨0, 0, false, []⟩ : Fld) := ⟨(show InR (0) from dc), (show InR (0) from dc)⟩
 refine st (zI (parts' := []) (v := .agg ((⟨0, 0, false, []⟩ : Fld).cells (Iz)).toArray) rfl (by simp +zetaDelta [Instr.build, Instr.fill, Ev.cells, go_sem, Mv.cells, Fld.cells, Typ.cells, Prj.cells, Dcl.cells, Cel.cells, AskR.cells]) (stn (zp (v := .agg ((⟨0, 0, false, []⟩ : Fld).cells (Iz)).toArray) (c' := ((⟨0, 0, false, []⟩ : Fld).cells (Iz)).toArray) lT rfl rfl (h.b0) (zW ⟨rfl, rfl, rfl, rfl, trivial⟩) yqc rfl ?_)))
 intro w80 aC
 have T := h.pt0 aC
 refine st (aS (.bool false) (zd (zk (Zv (b := b6) nY tT lT rfl rfl (CellsAt.all (T.b0)) (show _ = (.bool false : Value) from rfl) ?_))))
 have aD : Sep _ _ ((RowE (α := Mv) own 136 (Iz) ([] : List Mv)) :: _) _ := T.rowNil own 136
 have s : yD d ty f = false := by unfold yD; rw [Bool.eq_false_iff]; intro h9; simp only [Bool.and_eq_true, decide_eq_true_eq] at h9; omega
 have hz : yc d ty f = (⟨0, 0, false, []⟩ : Fld) := by unfold yc; rw [s]; rfl
 rw [hz, s]
 refine ⟨(Iz), rfl, ?_, (aD.s3_a)⟩
 exact aB
 try simp only [ze] at u
 refine stx rfl rfl (stx rfl rfl (st (zQ (v := .bool true) rfl rfl (zd (zh rfl (za (R0 fun _ => ?_)))))))
 have aF : Fld.Ok (⟨0, 0, false, []⟩ : Fld) := ⟨(show InR (0) from dc), (show InR (0) from dc)⟩
 refine st (zI (parts' := []) (v := .agg ((⟨0, 0, false, []⟩ : Fld).cells (Iz)).toArray) rfl (by simp +zetaDelta [Instr.build, Instr.fill, Ev.cells, go_sem, Mv.cells, Fld.cells, Typ.cells, Prj.cells, Dcl.cells, Cel.cells, AskR.cells]) (stn (zp (v := .agg ((⟨0, 0, false, []⟩ : Fld).cells (Iz)).toArray) (c' := ((⟨0, 0, false, []⟩ : Fld).cells (Iz)).toArray) lT rfl rfl (e.b0) (zW ⟨rfl, rfl, rfl, rfl, trivial⟩) yqc rfl ?_)))
 intro w86 aG
 have U := e.pt0 aG
 refine st (aS (.bool false) (zd (zk (Zv (b := b6) nY tT lT rfl rfl (CellsAt.all (U.b0)) (show _ = (.bool false : Value) from rfl) ?_))))
 have aH : Sep _ _ ((RowE (α := Mv) own 136 (Iz) ([] : List Mv)) :: _) _ := U.rowNil own 136
 have s : yD d ty f = false := by unfold yD; rw [Bool.eq_false_iff]; intro h9; simp only [Bool.and_eq_true, decide_eq_true_eq] at h9; omega
 have hz : yc d ty f = (⟨0, 0, false, []⟩ : Fld) := by unfold yc; rw [s]; rfl
 rw [hz, s]
 refine ⟨(Iz), rfl, ?_, (aH.s3_a)⟩
 exact aF

theorem Ks {G : Nat → Prop} {W w : World} {Rs : List HP} {d : Dcl} {dd0 : Value} (hdd0 : RdS W G dd0 d.types) {dd1 : Value} (hdd1 : RdS W G dd1 d.projs) (od : d.Ok) {ty : Int} (hty : InR ty) {f : Int} (hf : InR f) {op : Int} (hop : InR op) {arg : Int} (harg : InR arg) (hKN : RdS W G (.slice (some ⟨0, 0, none⟩) 6 6) kindsL) (hS0 : Sep G W Rs w) : Ret Tryz.prog 51 [.agg (d.cells dd0 dd1).toArray, .int .i64 (ty), .int .i64 (f), .int .i64 (op), .int .i64 (arg)] w (fun r w' => r = (.int .i64 (yL d ty f op arg) : Value) ∧ Sep G W Rs w') := by
 have hdd0s : _ * 24 ≤ _ := hdd0.small
 have hdd1s : _ * 40 ≤ _ := hdd1.small
 have hKNs : _ * 8 ≤ _ := hKN.small
 refine zi (args := [.agg (d.cells dd0 dd1).toArray, Iv ty, Iv f, Iv op, Iv arg]) Tryz.func51 rfl rfl ?_
 refine za (R0 fun _ => st (zH (v := .agg (d.cells dd0 dd1).toArray) rfl ?_))
 intro w3 b2 aL
 have aB := hS0.new aL
 refine st (aS (Iv 0) (zd (za (R0 fun _ => st (zf (k := 2) uR vR rfl rfl (CellsAt.all (aB.b0)) (st (mV (Iv ty) (st (mV (Iv f) (st (cL Tryz.call72 (zaz (d := d) (ty := ty) (f := f) hdd0 hdd1 od hty hf aB) ?_)))))))))))
 rintro _ w7 ⟨z, rfl, hfok6, aC⟩
 let aG := (yc d ty f).cells z
 have X := aC.r0
 have hr9s : _ * 32 ≤ _ := X.2
 refine st (mV (.tuple #[.agg aG.toArray, .bool ((yD d ty f))]) (st (zj (vs := [.agg aG.toArray, .bool ((yD d ty f))]) (i := 0) (v := .agg aG.toArray) rfl rfl (st (zj (vs := [.agg aG.toArray, .bool ((yD d ty f))]) (i := 1) (v := .bool ((yD d ty f))) rfl rfl (st (zr vT ?_)))))))
 intro w12 K aE
 have Y := aC.new aE
 refine stn (zp (v := .agg aG.toArray) (c' := aG.toArray) lT rfl rfl (Y.b0) (zW ⟨rfl, rfl, rfl, X.1.one, trivial⟩) yqc rfl ?_)
 intro w14 aF
 have Z := Y.pt0 aF
 refine st (aS (.bool ((yD d ty f))) (zd (za (zw (za (R0 fun _ => st (mV (.bool ((yD d ty f))) (st (yH (a := (yD d ty f)) rfl (st (aS (.bool (!(yD d ty f))) (zd ?_))))))))))))
 cases I : !(yD d ty f)
 have h := I
 try simp only [ze] at I
 refine zg rfl (za ?_)
 refine WD4 ((fun TT aD => WF [fun vals wq => Sep G W (aD :: TT) wq, fun vals wq => (vals 1 = (.bool ((decide (1 ≤ op) && decide (op ≤ 5))) : Value)) ∧ Sep G W (aD :: TT) wq]) ((RowE (α := Mv) own 136 z ((yc d ty f).moves)) :: (Blk b2 (d.cells dd0 dd1).toArray 25) :: Rs) (Blk K aG.toArray 110)) (AF [Vl 0 (Iv op), fun _ => True, Vl 2 (.bool (!(decide (1 ≤ op) && decide (op ≤ 5)))), Vl 3 (.bool (!(decide (1 ≤ op) && decide (op ≤ 5)))), Vl 4 (if (!(decide (1 ≤ op) && decide (op ≤ 5))) = false then Iv op else undef), Vl 5 (if (!(decide (1 ≤ op) && decide (op ≤ 5))) = false then Ix (sb (Iy 0 6 6)) (so (Iy 0 6 6) + op.toNat * 1) else undef), Vl 6 (if (!(decide (1 ≤ op) && decide (op ≤ 5))) = false then Iv ((kindsL.getD op.toNat 0)) else undef), Vl 7 (if (!(decide (1 ≤ op) && decide (op ≤ 5))) = false then Ix K 0 else undef), Vl 8 (if (!(decide (1 ≤ op) && decide (op ≤ 5))) = false then Iv ((yc d ty f).kind) else undef), Vl 9 (if (!(decide (1 ≤ op) && decide (op ≤ 5))) = false then .bool (!decide ((kindsL.getD op.toNat 0) = ((yc d ty f).kind))) else undef), Vl 10 (.bool ((!(decide (1 ≤ op) && decide (op ≤ 5))) || (!decide ((kindsL.getD op.toNat 0) = ((yc d ty f).kind))))), Vl 11 (.bool ((!(decide (1 ≤ op) && decide (op ≤ 5))) || (!decide ((kindsL.getD op.toNat 0) = ((yc d ty f).kind)))))]) [[], [0], [0, 1], [0, 1, 2], (rg 4), (rg 5), (rg 6), (rg 4), [0, 1, 2, 3, 7], (rg 9), (rg 10), (rg 11)] [1] [(0, 0), (0, 0), (1, 1), (1, 1), (1, 1), (1, 1), (1, 1), (1, 1), (1, 1), (1, 1), (1, 1), (1, 1)] Z ⟨fun _ _ _ _ _ _ _ => obl rfl (mV (Iv op) dR), ?_, ?_, fun _ _ _ _ _ _ ac => obl rfl (ya (v := .bool (!(decide (1 ≤ op) && decide (op ≤ 5)))) (ac 2 dc) dR), ?_, ?_, ?_, ?_, ?_, ?_, fun _ _ _ _ _ _ L => obl rfl (zo (b := !(decide (1 ≤ op) && decide (op ≤ 5))) (b' := !decide ((kindsL.getD op.toNat 0) = ((yc d ty f).kind))) (L 3 dc) (fun hbp => (Eq.trans (L 9 dc) (if_pos hbp))) dR), fun _ _ _ _ _ _ ad => obl rfl (zR (v := .bool ((!(decide (1 ≤ op) && decide (op ≤ 5))) || (!decide ((kindsL.getD op.toNat 0) = ((yc d ty f).kind))))) (ad 10 dc) dR), trivial⟩ ?_
 refine ob1 0 fun vals _ (aH : Sep _ _ _ _) aI => (obl rfl ((zB (f := 73) (vals := [Iv op, Iv 1, Iv 5]) (cap := []) rfl (yE ⟨(aI 0 dc), rfl, rfl, trivial⟩) rR (Yk (x := op) (lo := 1) (hi := 5) om dc dc aH) ?_)))
 rintro _ w32 ⟨rfl, aJ⟩
 exact fun c e hv' => ⟨(And.intro e aJ), trivial⟩
 refine ob1 1 fun _ _ ae _ => ?_
 obtain ⟨A, hS142⟩ := ae
 exact obl rfl (yH (a := (decide (1 ≤ op) && decide (op ≤ 5))) A dR)
 refine fun _ _ _ _ _ _ af => (yt rfl rfl (af 3 dc) (fun B => ?_) (fun B => fun c e _ => ⟨trivial, e.trans (if_neg B).symm⟩))
 have ag := B
 try simp only [ze] at ag
 exact mV (Iv op) (fun c e _ => ⟨rfl, e.trans (if_pos B).symm⟩)
 refine ob1 1 fun _ _ ah M => ?_
 obtain ⟨A, hS165⟩ := ah
 refine yt rfl rfl (M 3 dc) (fun q => ?_) (fun q => fun c e _ => ⟨trivial, e.trans (if_neg q).symm⟩)
 have ai := q
 try simp only [ze] at ai
 exact XG (b := sb (Iy 0 6 6)) (o := so (Iy 0 6 6)) (k := 1) (n := 6) (i := op) (off := op.toNat * 1) Tryz.underlying139 mY rfl (Eq.trans (M 4 dc) (if_pos q)) om rfl (fun c e _ => ⟨rfl, e.trans (if_pos q).symm⟩)
 refine ob1 1 fun _ _ aj N => ?_
 obtain ⟨A, ak⟩ := aj
 refine yt rfl rfl (N 3 dc) (fun s => ?_) (fun s => fun c e _ => ⟨trivial, e.trans (if_neg s).symm⟩)
 have al := s
 try simp only [ze] at al
 have O : op.toNat < kindsL.length := (by first | omega | (rw [UB]; omega))
 obtain ⟨aa, hxe181⟩ := hKN.intD O
 have ab := ak.cells aa (hKN.foot (ne_of_lt O))
 exact lD (Iv ((kindsL.getD op.toNat 0))) kT (Eq.trans (N 5 dc) (if_pos s)) (ab.get (j := 0) rfl) (fun c e _ => ⟨rfl, e.trans (if_pos s).symm⟩)
 refine fun _ _ _ _ _ _ am => (yt rfl rfl (am 3 dc) (fun C => ?_) (fun C => fun c e _ => ⟨trivial, e.trans (if_neg C).symm⟩))
 have an := C
 try simp only [ze] at an
 exact xr rfl (fun c e _ => ⟨rfl, e.trans (if_pos C).symm⟩)
 refine ob1 1 fun _ _ ao P => ?_
 obtain ⟨A, ap⟩ := ao
 refine yt rfl rfl (P 3 dc) (fun t => ?_) (fun t => fun c e _ => ⟨trivial, e.trans (if_neg t).symm⟩)
 have aq := t
 try simp only [ze] at aq
 exact lD (Iv ((yc d ty f).kind)) kT (Eq.trans (P 7 dc) (if_pos t)) (zb (ap.b0) rfl) (fun c e _ => ⟨rfl, e.trans (if_pos t).symm⟩)
 refine ob1 1 fun _ _ ar J => ?_
 obtain ⟨A, hS210⟩ := ar
 refine yt rfl rfl (J 3 dc) (fun m => ?_) (fun m => fun c e _ => ⟨trivial, e.trans (if_neg m).symm⟩)
 have au := m
 try simp only [ze] at au
 exact yr (k := .i64) (a := (kindsL.getD op.toNat 0)) (b := (yc d ty f).kind) (Eq.trans (J 6 dc) (if_pos m)) (Eq.trans (J 8 dc) (if_pos m)) (fun c e _ => ⟨rfl, e.trans (if_pos m).symm⟩)
 intro vals w231 av aw
 obtain ⟨A, u⟩ := av
 have aK := aw 11 dc
 refine zT (kv := [(0, .agg (d.cells dd0 dd1).toArray), (1, Iv ty), (2, Iv f), (3, Iv op), (4, Iv arg), (5, Ix b2 0), (10, Iv 0), (14, .agg (d.cells dd0 dd1).toArray), (15, Iv ty), (16, Iv f), (17, .tuple #[.agg ((yc d ty f).cells z).toArray, .bool ((yD d ty f))]), (13, .tuple #[.agg ((yc d ty f).cells z).toArray, .bool ((yD d ty f))]), (18, .agg ((yc d ty f).cells z).toArray), (19, .bool ((yD d ty f))), (11, Ix K 0), (12, .bool ((yD d ty f))), (21, .bool ((yD d ty f))), (22, .bool false), (20, .bool false), (23, .bool ((!(decide (1 ≤ op) && decide (op ≤ 5))) || (!decide ((kindsL.getD op.toNat 0) = ((yc d ty f).kind)))))]) ⟨rfl, rfl, rfl, rfl, rfl, rfl, rfl, rfl, rfl, rfl, rfl, rfl, rfl, rfl, rfl, rfl, rfl, rfl, rfl, (by exact aK), trivial⟩ (fun ρw231 => (zd ?_))
 cases D : (!(decide (1 ≤ op) && decide (op ≤ 5))) || (!decide ((kindsL.getD op.toNat 0) = ((yc d ty f).kind)))
 have g := D
 try simp only [ze] at D
 refine zg rfl (za (za (zv kr (st (mV (Iv op) (st (zN (k := .i64) (a := op) (b := 1) rfl rfl (st (mV (.bool (decide (op = 1))) (stc (V := Iv arg) rfl rfl (fun ax => ?_) ?_))))))))))
 have hl238 := tD ax
 exact mV (Iv arg) ⟨rfl, rfl⟩
 refine stc (V := .bool (decide (arg = 0))) rfl rfl (fun Q => ?_) ?_
 have hl240 := tD Q
 exact zN (k := .i64) (a := arg) (b := 0) (if_pos Q) rfl ⟨rfl, rfl⟩
 refine st (zy (b := decide (op = 1)) (b' := decide (arg = 0)) rfl (fun hbp => (if_pos hbp)) (st (aS (.bool ((decide (op = 1)) && (decide (arg = 0)))) (zd ?_))))
 cases E : (decide (op = 1)) && (decide (arg = 0))
 have l := E
 try simp only [ze] at E
 refine zg rfl (zv kr (st (mV (Iv op) (st (zN (k := .i64) (a := op) (b := 5) rfl rfl (st (mV (.bool (decide (op = 5))) (stc (V := Iv arg) rfl rfl (fun ay => ?_) ?_))))))))
 have hl243 := tD ay
 exact mV (Iv arg) ⟨rfl, rfl⟩
 refine stc (V := Ix K 3) rfl rfl (fun az => ?_) ?_
 have hl245 := tD az
 exact yF rfl ⟨rfl, rfl⟩
 refine stc (V := z) rfl rfl (fun R => ?_) ?_
 have hl247 := tD R
 exact lD z sT (if_pos R) (zb (u.b0) rfl) ⟨rfl, rfl⟩
 refine stc (V := Iw (((yc d ty f).moves).length)) rfl rfl (fun S => ?_) ?_
 have hl249 := tD S
 exact zL (n := ((yc d ty f).moves).length) pT (if_pos S) X.1 ⟨rfl, rfl⟩
 refine stc (V := Iv (((((yc d ty f).moves).length : Nat) : Int) - 1)) rfl rfl (fun T => ?_) ?_
 have hl251 := tD T
 have aA : InR (((((yc d ty f).moves).length : Nat) : Int) - 1) := by omega
 exact YV (r := ((((yc d ty f).moves).length : Nat) : Int) - 1) (k := .i64) (a := ((((yc d ty f).moves).length : Nat) : Int)) (b := 1) (if_pos T) rfl (zJ aA) ⟨rfl, rfl⟩
 cases p : decide (op = 5)
 have y := p
 have p := fD p
 refine stx rfl rfl (stx rfl rfl (st (zZ (v := .bool false) rfl rfl (st (aS (.bool false) (zd (zg rfl (zl (za (R0 fun _ => st (aS (Iv 0) (zd (zk (zG kR (show _ = (Iv 0 : Value) from rfl) ?_))))))))))))))
 refine ⟨?_, (u.s3_)⟩
 unfold yL
 simp only [h, g, l, y, Bool.not_false, Bool.not_true, Bool.true_and, Bool.false_and, Bool.or_true, if_true, if_false, Bool.false_eq_true, ↓reduceIte]
 have y := p
 have p := tD p
 refine sty rfl rfl (cL rR (Yk (x := arg) (lo := 0) (hi := ((((yc d ty f).moves).length : Nat) : Int) - 1) harg dc om u) ?_)
 rintro _ w255 ⟨rfl, U⟩
 refine sty rfl rfl (yH (a := (decide (0 ≤ arg) && decide (arg ≤ (((((yc d ty f).moves).length : Nat) : Int) - 1)))) rfl (st (zQ (v := .bool (!(decide (0 ≤ arg) && decide (arg ≤ (((((yc d ty f).moves).length : Nat) : Int) - 1))))) rfl rfl (st (aS (.bool (!(decide (0 ≤ arg) && decide (arg ≤ (((((yc d ty f).moves).length : Nat) : Int) - 1))))) (zd ?_))))))
 cases F : !(decide (0 ≤ arg) && decide (arg ≤ (((((yc d ty f).moves).length : Nat) : Int) - 1)))
 have H := F
 try simp only [ze] at F
 refine zg rfl (zl (za (R0 fun _ => st (aS (Iv 0) (zd (zk (zG kR (show _ = (Iv 0 : Value) from rfl) ?_)))))))
 refine ⟨?_, (U.s3_)⟩
 unfold yL
 simp only [h, g, l, y, H, Bool.not_false, Bool.not_true, Bool.true_and, Bool.false_and, Bool.or_true, if_true, if_false, Bool.false_eq_true, ↓reduceIte]
 have H := F
 try simp only [ze] at F
 refine zh rfl (za (R0 fun _ => st (aS (Iv 1) (zd (zk (zG kR (show _ = (Iv 1 : Value) from rfl) ?_))))))
 refine ⟨?_, (U.s3_)⟩
 unfold yL
 simp only [h, g, l, y, H, Bool.not_false, Bool.not_true, Bool.true_and, Bool.false_and, Bool.or_true, if_true, if_false, Bool.false_eq_true, ↓reduceIte]
 have l := E
 try simp only [ze] at E
 refine zh rfl (zl (zh rfl (za (R0 fun _ => st (aS (Iv 1) (zd (zk (zG kR (show _ = (Iv 1 : Value) from rfl) ?_))))))))
 refine ⟨?_, (u.s3_)⟩
 unfold yL
 simp only [h, g, l, Bool.not_false, Bool.not_true, Bool.true_and, Bool.false_and, Bool.or_true, if_true, if_false, Bool.false_eq_true, ↓reduceIte]
 have g := D
 try simp only [ze] at D
 refine zh rfl (za (R0 fun _ => st (aS (Iv 2) (zd (zk (zG kR (show _ = (Iv 2 : Value) from rfl) ?_))))))
 refine ⟨?_, (u.s3_)⟩
 unfold yL
 simp only [h, g, Bool.not_false, Bool.not_true, Bool.true_and, Bool.false_and, Bool.or_true, if_true, if_false, Bool.false_eq_true, ↓reduceIte]
 have h := I
 try simp only [ze] at I
 refine zh rfl (za (R0 fun _ => st (aS (Iv 8) (zd (zk (zG kR (show _ = (Iv 8 : Value) from rfl) ?_))))))
 refine ⟨?_, (Z.s3_)⟩
 unfold yL
 simp only [h, Bool.not_false, Bool.not_true, Bool.true_and, Bool.false_and, Bool.or_true, if_true, if_false, Bool.false_eq_true, ↓reduceIte]

end Go.Proofs.YtbbabhaalmkbkaaGreatDoor
