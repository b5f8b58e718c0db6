import Derived.Test.YtlblilbmpdejgaaDoorV6
import Derived.Test.YtlblilbmpdejgaaDoorV2
set_option linter.unusedSimpArgs false
set_option linter.unusedVariables false
set_option linter.unusedSectionVars false
set_option linter.deprecated false
set_option maxRecDepth 8000
set_option maxHeartbeats 4000000
open Go.Proofs.Tryd renaming isAgg3 → lT, sizeOf59 → mT, underlying66 → nT, isAgg59 → oT, sizeOf62 → pT, isAgg26 → qT, underlying26 → rT, underlying47 → sT, isAgg57 → tT, sizeOf57 → uT, zeroValue59 → vT, isAgg40 → wT, isAgg4 → lR, underlying40 → mR, results55 → nR, sizeOf42 → oR, sizeOf3 → pR, sizeOf25 → qR, call44 → rR, isAgg25 → sR, zeroValue3 → tR, call43 → uR, results31 → vR, results34 → wR, results20 → lY, call19 → mY, call38 → nY, underlying51 → oY, call36 → pY, call32 → qY, zeroValue68 → rY, sizeOf68 → sY
namespace Go.Proofs.YtlblilbmpdejgaaDoor
open Go.Proofs Go.RowKit

def Uf (e : Ev) (n : Int) : Prop := (0 ≤ e.origin ∧ e.origin < n ∧ (e.deps.length : Int) = n ∧ 1 ≤ e.seq) ∧ ∀ i, i < e.deps.length → 0 ≤ e.deps.getD i 0
theorem QP {α : Type} [Inhabited α] {P : α → Prop} {l : List α} {x : α} (h : ∀ i, i < l.length → P (l.getD i default)) (hx : P x) : ∀ i, i < (l ++ [x]).length → P ((l ++ [x]).getD i default) := by
  intro i hi
  rcases Nat.lt_or_ge i l.length with h1 | h1
  · have e : (l ++ [x]).getD i default = l.getD i default := by rw [List.getD_eq_getElem?_getD, List.getD_eq_getElem?_getD, List.getElem?_append_left h1]
    rw [e]; exact h i h1
  · have e : i = l.length := by rw [List.length_append, List.length_singleton] at hi; omega
    subst e
    rw [List.getD_eq_getElem?_getD, List.getElem?_append_right (Nat.le_refl _), Nat.sub_self]; exact hx
theorem YV {G : Nat → Prop} {W w : World} {Rs : List HP} {d : Dcl} {dd0 : Value} (hdd0 : RdS W G dd0 d.types) {dd1 : Value} (hdd1 : RdS W G dd1 d.projs) (od : d.Ok) (hS0 : Sep G W Rs w) : Ret Tryd.prog 20 [.agg (d.cells dd0 dd1).toArray] w (fun r w' => ∃ (b : Bool), r = (.bool b : Value) ∧ (b = true → DclOk d) ∧ Sep G W Rs w') := by
 have hdd0s : _ * 24 ≤ _ := hdd0.small
 have hdd1s : _ * 40 ≤ _ := hdd1.small
 refine zl (args := [.agg (d.cells dd0 dd1).toArray]) Tryd.func20 rfl rfl ?_
 refine za (R0 fun _ => st (zR (v := .agg (d.cells dd0 dd1).toArray) rfl ?_))
 intro w3 b2 m
 have h := hS0.new m
 refine st (aS (.bool false) (zb (za (zw kr (st (zg (k := 2) sR qR rfl rfl (CellsAt.all (h.b0)) (st (cL Tryd.call45 (KX (d := d) hdd0 hdd1 od h) ?_))))))))
 rintro _ w6 ⟨i, rfl, f⟩
 refine st (yc (a := i) rfl (st (mV (.bool (!i)) (stc (V := .agg (d.cells dd0 dd1).toArray) rfl rfl (fun n => ?_) ?_))))
 have o := n
 try simp only [zf] at o
 exact zg (k := 2) sR qR rfl rfl (CellsAt.all (f.b0)) ⟨rfl, rfl⟩
 cases e : !i
 have hg10r := e
 try simp only [zf] at e
 refine stx rfl rfl (stx rfl rfl (st (zO (v := .bool false) rfl rfl (st (aS (.bool false) (zb (zm (zL lY (show _ = (.bool false : Value) from rfl) ?_))))))))
 refine ⟨false, rfl, ?_, (f.s1_)⟩
 intro j
 cases j
 try simp only [zf] at e
 refine sty rfl rfl (cL Tryd.call46 (Kw (d := d) hdd0 hdd1 od f) ?_)
 rintro _ w15 ⟨c, rfl, hin13, g, l⟩
 refine sty rfl rfl (zF (k := .i64) (a := c) (b := 0) rfl rfl (st (zN (v := .bool (decide (c = 0))) rfl rfl (st (aS (.bool (decide (c = 0))) (zb (zm (zL lY (show _ = (.bool (decide (c = 0)) : Value) from rfl) ?_))))))))
 refine ⟨decide (c = 0), rfl, ?_, (l.s1_)⟩
 intro j
 exact g (by simpa using j)

theorem Qp {G : Nat → Prop} {W w : World} {Rs : List HP} {e : Ev} {de0 : Value} (hde0 : RdS W G de0 e.deps) (oe : e.Ok) {n : Int} (hn : InR n) (hS0 : Sep G W Rs w) : Ret Tryd.prog 55 [.agg (e.cells de0).toArray, .int .i64 (n)] w (fun r w' => ∃ (c : Int), r = (.int .i64 (c) : Value) ∧ (InR c) ∧ (c = 0 → Uf e n) ∧ Sep G W Rs w') := by
 have hde0s : _ * 8 ≤ _ := hde0.small
 refine zl (args := [.agg (e.cells de0).toArray, Iv n]) Tryd.func55 rfl rfl ?_
 refine za (R0 fun _ => st (zR (v := .agg (e.cells de0).toArray) rfl ?_))
 intro w3 b2 bi
 have f := hS0.new bi
 refine st (aS (Iv 0) (zb (za (za (zw kr (st (yP rfl (st (Yb rfl (st (lD (Iv (e.origin)) lT rfl (zd (f.b0) rfl) (st (zD (k := .i64) (a := e.origin) (b := 0) rfl rfl (st (mV (.bool (decide (e.origin < 0))) (stc (V := Ix b2 0) rfl rfl (fun bj => ?_) ?_))))))))))))))))
 have hl6 := fD bj
 exact yP rfl ⟨rfl, rfl⟩
 refine stc (V := Ix b2 0) rfl rfl (fun aE => ?_) ?_
 have hl8 := fD aE
 exact Yb (if_pos aE) ⟨rfl, rfl⟩
 refine stc (V := Iv (e.origin)) rfl rfl (fun aF => ?_) ?_
 have hl10 := fD aF
 exact lD (Iv (e.origin)) lT (if_pos aF) (zd (f.b0) rfl) ⟨rfl, rfl⟩
 refine stc (V := Iv n) rfl rfl (fun aG => ?_) ?_
 have hl12 := fD aG
 exact mV (Iv n) ⟨rfl, rfl⟩
 refine stc (V := .bool (decide (n ≤ e.origin))) rfl rfl (fun p => ?_) ?_
 have hl14 := fD p
 exact yV (k := .i64) (a := e.origin) (b := n) (if_pos p) (if_pos p) ⟨rfl, rfl⟩
 refine st (zx (b := decide (e.origin < 0)) (b' := decide (n ≤ e.origin)) rfl (fun hbp => (if_pos hbp)) (st (mV (.bool ((decide (e.origin < 0)) || (decide (n ≤ e.origin)))) (stc (V := Ix b2 0) rfl rfl (fun aH => ?_) ?_))))
 have aI := aH
 try simp only [zf] at aI
 exact yP rfl ⟨rfl, rfl⟩
 refine stc (V := Ix b2 1) rfl rfl (fun K => ?_) ?_
 have aJ := K
 try simp only [zf] at aJ
 exact YA (if_pos K) ⟨rfl, rfl⟩
 refine stc (V := Iv (e.seq)) rfl rfl (fun L => ?_) ?_
 have aK := L
 try simp only [zf] at aK
 exact lD (Iv (e.seq)) lT (if_pos L) (zd (f.b0) rfl) ⟨rfl, rfl⟩
 refine stc (V := .bool (decide (e.seq < 1))) rfl rfl (fun M => ?_) ?_
 have aL := M
 try simp only [zf] at aL
 exact zD (k := .i64) (a := e.seq) (b := 1) (if_pos M) rfl ⟨rfl, rfl⟩
 refine st (zx (b := (decide (e.origin < 0)) || (decide (n ≤ e.origin))) (b' := decide (e.seq < 1)) rfl (fun hbp => (if_pos hbp)) (st (mV (.bool (((decide (e.origin < 0)) || (decide (n ≤ e.origin))) || (decide (e.seq < 1)))) (stc (V := Ix b2 2) rfl rfl (fun aM => ?_) ?_))))
 have aN := aM
 try simp only [zf] at aN
 exact VN rfl ⟨rfl, rfl⟩
 refine stc (V := Iv (e.lam)) rfl rfl (fun N => ?_) ?_
 have aO := N
 try simp only [zf] at aO
 exact lD (Iv (e.lam)) lT (if_pos N) (zd (f.b0) rfl) ⟨rfl, rfl⟩
 refine stc (V := .bool (decide (e.lam < 1))) rfl rfl (fun O => ?_) ?_
 have aP := O
 try simp only [zf] at aP
 exact zD (k := .i64) (a := e.lam) (b := 1) (if_pos O) rfl ⟨rfl, rfl⟩
 refine st (zx (b := ((decide (e.origin < 0)) || (decide (n ≤ e.origin))) || (decide (e.seq < 1))) (b' := decide (e.lam < 1)) rfl (fun hbp => (if_pos hbp)) (st (mV (.bool ((((decide (e.origin < 0)) || (decide (n ≤ e.origin))) || (decide (e.seq < 1))) || (decide (e.lam < 1)))) (stc (V := Ix b2 5) rfl rfl (fun aQ => ?_) ?_))))
 have aR := aQ
 try simp only [zf] at aR
 exact xl rfl ⟨rfl, rfl⟩
 refine stc (V := Iv (e.agg)) rfl rfl (fun P => ?_) ?_
 have aT := P
 try simp only [zf] at aT
 exact lD (Iv (e.agg)) lT (if_pos P) (zd (f.b0) rfl) ⟨rfl, rfl⟩
 refine stc (V := .bool (decide (e.agg < 0))) rfl rfl (fun Q => ?_) ?_
 have aU := Q
 try simp only [zf] at aU
 exact zD (k := .i64) (a := e.agg) (b := 0) (if_pos Q) rfl ⟨rfl, rfl⟩
 refine st (zx (b := (((decide (e.origin < 0)) || (decide (n ≤ e.origin))) || (decide (e.seq < 1))) || (decide (e.lam < 1))) (b' := decide (e.agg < 0)) rfl (fun hbp => (if_pos hbp)) (st (mV (.bool (((((decide (e.origin < 0)) || (decide (n ≤ e.origin))) || (decide (e.seq < 1))) || (decide (e.lam < 1))) || (decide (e.agg < 0)))) (stc (V := Ix b2 9) rfl rfl (fun aV => ?_) ?_))))
 have aW := aV
 try simp only [zf] at aW
 exact VV rfl ⟨rfl, rfl⟩
 refine stc (V := Iv (e.key)) rfl rfl (fun R => ?_) ?_
 have aX := R
 try simp only [zf] at aX
 exact lD (Iv (e.key)) lT (if_pos R) (zd (f.b0) rfl) ⟨rfl, rfl⟩
 refine stc (V := .bool (decide (e.key < 0))) rfl rfl (fun S => ?_) ?_
 have aY := S
 try simp only [zf] at aY
 exact zD (k := .i64) (a := e.key) (b := 0) (if_pos S) rfl ⟨rfl, rfl⟩
 refine st (zx (b := ((((decide (e.origin < 0)) || (decide (n ≤ e.origin))) || (decide (e.seq < 1))) || (decide (e.lam < 1))) || (decide (e.agg < 0))) (b' := decide (e.key < 0)) rfl (fun hbp => (if_pos hbp)) (st (mV (.bool ((((((decide (e.origin < 0)) || (decide (n ≤ e.origin))) || (decide (e.seq < 1))) || (decide (e.lam < 1))) || (decide (e.agg < 0))) || (decide (e.key < 0)))) (stc (V := Ix b2 3) rfl rfl (fun aZ => ?_) ?_))))
 have ba := aZ
 try simp only [zf] at ba
 exact xo rfl ⟨rfl, rfl⟩
 refine stc (V := de0) rfl rfl (fun T => ?_) ?_
 have bb := T
 try simp only [zf] at bb
 exact lD de0 wT (if_pos T) (zd (f.b0) rfl) ⟨rfl, rfl⟩
 refine stc (V := Iw e.deps.length) rfl rfl (fun U => ?_) ?_
 have bc := U
 try simp only [zf] at bc
 exact zA (n := e.deps.length) mR (if_pos U) hde0.sl ⟨rfl, rfl⟩
 refine stc (V := Iv n) rfl rfl (fun bd => ?_) ?_
 have be := bd
 try simp only [zf] at be
 exact mV (Iv n) ⟨rfl, rfl⟩
 refine stc (V := .bool (!decide (((e.deps.length : Nat) : Int) = n))) rfl rfl (fun q => ?_) ?_
 have bf := q
 try simp only [zf] at bf
 exact yh (k := .i64) (a := ((e.deps.length : Nat) : Int)) (b := n) (if_pos q) (if_pos q) ⟨rfl, rfl⟩
 refine st (zx (b := (((((decide (e.origin < 0)) || (decide (n ≤ e.origin))) || (decide (e.seq < 1))) || (decide (e.lam < 1))) || (decide (e.agg < 0))) || (decide (e.key < 0))) (b' := !decide (((e.deps.length : Nat) : Int) = n)) rfl (fun hbp => (if_pos hbp)) (zb ?_))
 cases X : ((((((decide (e.origin < 0)) || (decide (n ≤ e.origin))) || (decide (e.seq < 1))) || (decide (e.lam < 1))) || (decide (e.agg < 0))) || (decide (e.key < 0))) || (!decide (((e.deps.length : Nat) : Int) = n))
 try simp only [zf] at X
 refine zi rfl (zk (za (za (R0 fun _ => st (aS (Iv 0) (zb (zn (zX (fun mq σ wq => ∃ (k : Nat) (ρ : Env), mq = e.deps.length - k ∧ σ = yb ρ [(1, Iv n), (2, Ix b2 0), (5, Iw k)] ∧ (k ≤ e.deps.length) ∧ (∀ i, i < k → 0 ≤ e.deps.getD i 0) ∧ Sep G W ((Blk b2 (e.cells de0).toArray 59) :: Rs) wq) ⟨0, _, rfl, sSf, Nat.zero_le _, (fun i h => absurd h (Nat.not_lt_zero i)), f⟩ ?_))))))))
 rintro m53 σ54 w52 ⟨k, ρl1, rfl, rfl, hkk, hm, m⟩
 refine za (za (R0 fun _ => st (mV (Iw k) (st (mV (Iv n) (st (zD (k := .i64) (a := ((k : Nat) : Int)) (b := n) rfl rfl (zb ?_))))))))
 cases o : decide (((k : Nat) : Int) < n)
 have o := fD o
 refine zi rfl (zU (zI (za (za ?_))))
 refine WD4 (WF [fun vals wq => Sep G W ((Blk b2 (e.cells de0).toArray 59) :: Rs) wq]) (AF [Vl 0 (Ix b2 3), Vl 1 (de0), Vl 2 (Ix b2 0), Vl 3 (Ix b2 0), Vl 4 (Iv (e.origin)), Vl 5 (Ix (sb de0) (so de0 + e.origin.toNat * 1)), Vl 6 (Iv ((e.deps.getD e.origin.toNat 0))), Vl 7 (Ix b2 0), Vl 8 (Ix b2 1), Vl 9 (Iv (e.seq)), Vl 10 (Iv (e.seq - 1)), Vl 11 (.bool (!decide ((e.deps.getD e.origin.toNat 0) = (e.seq - 1))))]) [[], [0], [], [2], [2, 3], (rg 5), (rg 6), [], [7], [7, 8], [7, 8, 9], (rg 11)] [] [(0, 0), (0, 0), (0, 0), (0, 0), (0, 0), (0, 0), (0, 0), (0, 0), (0, 0), (0, 0), (0, 0), (0, 0)] m ⟨fun _ _ _ _ _ _ _ => obl rfl (xo rfl dR), ob1 0 fun _ _ (ac : Sep _ _ _ _) ad => obl rfl (lD de0 wT (ad 0 dc) (zd (ac.b0) rfl) dR), fun _ _ _ _ _ _ _ => obl rfl (yP rfl dR), fun _ _ _ _ _ _ ae => obl rfl (Yb (ae 2 dc) dR), ob1 0 fun _ _ (af : Sep _ _ _ _) ag => obl rfl (lD (Iv (e.origin)) lT (ag 3 dc) (zd (af.b0) rfl) dR), ?_, ?_, fun _ _ _ _ _ _ _ => obl rfl (yP rfl dR), fun _ _ _ _ _ _ ah => obl rfl (YA (ah 7 dc) dR), ob1 0 fun _ _ (ai : Sep _ _ _ _) aj => obl rfl (lD (Iv (e.seq)) lT (aj 8 dc) (zd (ai.b0) rfl) dR), ?_, ob1 0 fun _ _ _ s => obl rfl (yh (k := .i64) (a := (e.deps.getD e.origin.toNat 0)) (b := e.seq - 1) (s 6 dc) (s 10 dc) dR), trivial⟩ ?_
 refine ob1 0 fun _ _ _ t => (obl rfl ?_)
 have hi196 : e.origin.toNat < e.deps.length := bo
 exact zq (k := 1) (i := e.origin) mR pR (t 1 dc) hde0.sl (t 4 dc) ⟨by omega, by omega⟩ dR
 refine ob1 0 fun _ _ (ak : Sep _ _ _ _) al => (obl rfl ?_)
 have u : e.origin.toNat < e.deps.length := bo
 obtain ⟨Y, hxe205⟩ := hde0.intD u
 have Z := ak.cells Y (hde0.foot (ne_of_lt u))
 exact lD (Iv ((e.deps.getD e.origin.toNat 0))) lT (al 5 dc) (Z.get (j := 0) rfl) dR
 refine ob1 0 fun _ _ _ am => (obl rfl ?_)
 have an : InR (e.seq - 1) := (by have J := oe.seq; omega)
 exact Zu (r := e.seq - 1) (k := .i64) (a := e.seq) (b := 1) (am 9 (by decide)) rfl (by rw [show (e.seq - 1 : Int) = e.seq - 1 from rfl]; exact zz an) dR
 intro vals w247 ao ap
 have d : Sep _ _ _ _ := ao
 have bh := ap 11 dc
 refine zZ (kv := [(1, Iv n), (2, Ix b2 0), (5, Iw k), (45, Iw k), (46, Iv n), (47, .bool false), (67, .bool (!decide ((e.deps.getD e.origin.toNat 0) = (e.seq - 1))))]) ⟨rfl, rfl, rfl, rfl, rfl, rfl, (by exact bh), trivial⟩ (fun ρw247 => (zb ?_))
 cases g : !decide ((e.deps.getD e.origin.toNat 0) = (e.seq - 1))
 have g := zB g
 refine zi rfl (zk (za (za (zw kr (st (xh rfl (st (lD (Iv (e.op)) lT rfl (zd (d.b0) rfl) (st (zD (k := .i64) (a := e.op) (b := 1) rfl rfl (st (mV (.bool (decide (e.op < 1))) (stc (V := Ix b2 7) rfl rfl (fun aq => ?_) ?_)))))))))))))
 have hl254 := fD aq
 exact xh rfl ⟨rfl, rfl⟩
 refine stc (V := Iv (e.op)) rfl rfl (fun x => ?_) ?_
 have hl256 := fD x
 exact lD (Iv (e.op)) lT (if_pos x) (zd (d.b0) rfl) ⟨rfl, rfl⟩
 refine stc (V := .bool (decide (5 < e.op))) rfl rfl (fun y => ?_) ?_
 have hl258 := fD y
 exact yM (k := .i64) (a := e.op) (b := 5) (if_pos y) rfl ⟨rfl, rfl⟩
 refine st (zx (b := decide (e.op < 1)) (b' := decide (5 < e.op)) rfl (fun hbp => (if_pos hbp)) (zb ?_))
 cases z : (decide (e.op < 1)) || (decide (5 < e.op))
 try simp only [zf] at z
 refine zi rfl (zk (za (za (zw kr (st (yB rfl (st (lD (Iv (e.typ)) lT rfl (zd (d.b0) rfl) (st (zD (k := .i64) (a := e.typ) (b := 0) rfl rfl (st (mV (.bool (decide (e.typ < 0))) (stc (V := Ix b2 4) rfl rfl (fun ar => ?_) ?_)))))))))))))
 have hl261 := fD ar
 exact yB rfl ⟨rfl, rfl⟩
 refine stc (V := Iv (e.typ)) rfl rfl (fun A => ?_) ?_
 have hl263 := fD A
 exact lD (Iv (e.typ)) lT (if_pos A) (zd (d.b0) rfl) ⟨rfl, rfl⟩
 refine stc (V := .bool (decide (7 < e.typ))) rfl rfl (fun B => ?_) ?_
 have hl265 := fD B
 exact yM (k := .i64) (a := e.typ) (b := 7) (if_pos B) rfl ⟨rfl, rfl⟩
 refine st (zx (b := decide (e.typ < 0)) (b' := decide (7 < e.typ)) rfl (fun hbp => (if_pos hbp)) (st (mV (.bool ((decide (e.typ < 0)) || (decide (7 < e.typ)))) (stc (V := Ix b2 6) rfl rfl (fun au => ?_) ?_))))
 have av := au
 try simp only [zf] at av
 exact yU rfl ⟨rfl, rfl⟩
 refine stc (V := Iv (e.field)) rfl rfl (fun C => ?_) ?_
 have aw := C
 try simp only [zf] at aw
 exact lD (Iv (e.field)) lT (if_pos C) (zd (d.b0) rfl) ⟨rfl, rfl⟩
 refine stc (V := .bool (decide (e.field < 0))) rfl rfl (fun D => ?_) ?_
 have ax := D
 try simp only [zf] at ax
 exact zD (k := .i64) (a := e.field) (b := 0) (if_pos D) rfl ⟨rfl, rfl⟩
 refine st (zx (b := (decide (e.typ < 0)) || (decide (7 < e.typ))) (b' := decide (e.field < 0)) rfl (fun hbp => (if_pos hbp)) (st (mV (.bool (((decide (e.typ < 0)) || (decide (7 < e.typ))) || (decide (e.field < 0)))) (stc (V := Ix b2 6) rfl rfl (fun ay => ?_) ?_))))
 have az := ay
 try simp only [zf] at az
 exact yU rfl ⟨rfl, rfl⟩
 refine stc (V := Iv (e.field)) rfl rfl (fun E => ?_) ?_
 have aA := E
 try simp only [zf] at aA
 exact lD (Iv (e.field)) lT (if_pos E) (zd (d.b0) rfl) ⟨rfl, rfl⟩
 refine stc (V := .bool (decide (7 < e.field))) rfl rfl (fun F => ?_) ?_
 have aB := F
 try simp only [zf] at aB
 exact yM (k := .i64) (a := e.field) (b := 7) (if_pos F) rfl ⟨rfl, rfl⟩
 refine st (zx (b := ((decide (e.typ < 0)) || (decide (7 < e.typ))) || (decide (e.field < 0))) (b' := decide (7 < e.field)) rfl (fun hbp => (if_pos hbp)) (zb ?_))
 cases H : (((decide (e.typ < 0)) || (decide (7 < e.typ))) || (decide (e.field < 0))) || (decide (7 < e.field))
 try simp only [zf] at H
 refine zi rfl (zk (za (R0 fun _ => st (aS (Iv 0) (zb (zm (zL nR (show _ = (Iv 0 : Value) from rfl) ?_)))))))
 refine ⟨0, rfl, ?_, ?_, (d.s1_)⟩
 decide
 intro J
 exact ⟨⟨by omega, by omega, by omega, by omega⟩, fun i hi => hm i om⟩
 try simp only [zf] at H
 refine zj rfl (za (R0 fun _ => st (aS (Iv 8) (zb (zm (zL nR (show _ = (Iv 8 : Value) from rfl) ?_))))))
 refine ⟨8, rfl, ?_, ?_, (d.s1_)⟩
 decide
 intro J
 omega
 try simp only [zf] at z
 refine zj rfl (za (R0 fun _ => st (aS (Iv 2) (zb (zm (zL nR (show _ = (Iv 2 : Value) from rfl) ?_))))))
 refine ⟨2, rfl, ?_, ?_, (d.s1_)⟩
 decide
 intro J
 omega
 have g := zM g
 refine zj rfl (za (R0 fun _ => st (aS (Iv 9) (zb (zm (zL nR (show _ = (Iv 9 : Value) from rfl) ?_))))))
 refine ⟨9, rfl, ?_, ?_, (d.s1_)⟩
 decide
 intro J
 omega
 have o := tD o
 refine zj rfl (zk (za (zn (za (R0 fun _ => st (xo rfl (st (lD de0 wT rfl (zd (m.b0) rfl) (st (mV (Iw k) ?_))))))))))
 have aC : k < e.deps.length := bo
 refine st (ze (k := 1) (i := k) mR pR rfl hde0.sl rfl aC ?_)
 have I : k < e.deps.length := bo
 obtain ⟨aa, hxe284⟩ := hde0.intD I
 have ab := m.cells aa (hde0.foot (ne_of_lt I))
 refine st (lD (Iv ((e.deps.getD k 0))) lT rfl (ab.get (j := 0) rfl) (st (zD (k := .i64) (a := (e.deps.getD k 0)) (b := 0) rfl rfl (zb ?_))))
 cases l : decide ((e.deps.getD k 0) < 0)
 have l := fD l
 refine zi rfl (zk (R0 fun _ => st (mV (Iw k) ?_)))
 have aD : InR ((k + 1 : Nat) : Int) := bo
 refine st (zH (r := ((k + 1 : Nat) : Int)) (k := .i64) (a := ((k : Nat) : Int)) (b := 1) rfl rfl (by rw [show (((k : Nat) : Int) + 1 : Int) = ((k + 1 : Nat) : Int) from bo]; exact zz aD) (st (aS (Iw (k + 1)) (zb ?_))))
 exact ⟨_, by omega, k + 1, _, rfl, sSf, by omega, (xb hm om), m⟩
 have l := tD l
 refine zj rfl (za (R0 fun _ => st (aS (Iv 1) (zb (zm (zL nR (show _ = (Iv 1 : Value) from rfl) ?_))))))
 refine ⟨1, rfl, ?_, ?_, (m.s1_)⟩
 decide
 intro J
 omega
 try simp only [zf] at X
 refine zj rfl (za (R0 fun _ => st (aS (Iv 1) (zb (zm (zL nR (show _ = (Iv 1 : Value) from rfl) ?_))))))
 refine ⟨1, rfl, ?_, ?_, (f.s1_)⟩
 decide
 intro J
 omega

theorem Yk {G : Nat → Prop} {W w : World} {Rs : List HP} {n : Int} (hn : InR n) {vl : Value} {l : List Ev} (hl : RdS W G vl l) (hS0 : Sep G W Rs w) : Ret Tryd.prog 22 [.int .i64 (n), vl] w (fun r w' => ∃ (v : Value) (l2 : List Ev), r = (v : Value) ∧ (l2.length ≤ 60) ∧ (∀ i, i < l2.length → Uf (l2.getD i default) n) ∧ Sep G W ((RowE (α := Ev) (shr G W) 59 v l2) :: Rs) w') := by
 have hls : _ * 96 ≤ _ := hl.small
 refine zl (args := [Iv n, vl]) Tryd.func22 rfl rfl ?_
 refine za (R0 fun _ => st (aS (Iz) (zb (za (R0 fun _ => st (aS (Iz) (zb (za (za (R0 fun _ => st (aS (Iv 0) (zb (zn ?_)))))))))))))
 have aa : Sep G W ((RowE (α := Ev) (shr G W) 59 (Iz) ([] : List Ev)) :: Rs) w := hS0.rowNil (shr G W) 59
 refine zX (fun mq σ wq => ∃ (k : Nat) (vo : Value) (l2 : List Ev) (ρ : Env), mq = l.length - k ∧ σ = yb ρ [(0, Iv n), (1, vl), (5, vo), (6, Iw k)] ∧ (k ≤ l.length) ∧ (l2.length ≤ 60) ∧ (∀ i, i < l2.length → Uf (l2.getD i default) n) ∧ Sep G W ((RowE (α := Ev) (shr G W) 59 vo l2) :: Rs) wq) ⟨0, (Iz), [], _, rfl, sSf, Nat.zero_le _, Nat.zero_le _, (fun i h => absurd h (Nat.not_lt_zero i)), aa⟩ ?_
 rintro m3 σ4 w2 ⟨k, vo, l2, ρl1, rfl, rfl, hkk, u, hft, g⟩
 let ac := zy W (sb vl) (so vl + k * 10 + 3)
 have J := g.r0
 have hr6s : _ * 96 ≤ _ := J.2
 refine za (za (zw kr (st (mV (Iw k) (st (mV vl (st (zA (n := l.length) sT rfl hl.sl (st (zD (k := .i64) (a := ((k : Nat) : Int)) (b := ((l.length : Nat) : Int)) rfl rfl (st (mV (.bool (decide (((k : Nat) : Int) < ((l.length : Nat) : Int)))) (stc (V := vo) rfl rfl (fun ab => ?_) ?_)))))))))))))
 have hl8 := tD ab
 exact mV vo ⟨rfl, rfl⟩
 refine stc (V := Iw l2.length) rfl rfl (fun K => ?_) ?_
 have hl10 := tD K
 exact zA (n := l2.length) sT (if_pos K) J.1 ⟨rfl, rfl⟩
 refine stc (V := .bool (decide (((l2.length : Nat) : Int) < 60))) rfl rfl (fun x => ?_) ?_
 have hl12 := tD x
 exact zD (k := .i64) (a := ((l2.length : Nat) : Int)) (b := 60) (if_pos x) rfl ⟨rfl, rfl⟩
 refine st (zo (b := decide (((k : Nat) : Int) < ((l.length : Nat) : Int))) (b' := decide (((l2.length : Nat) : Int) < 60)) rfl (fun hbp => (if_pos hbp)) (zb ?_))
 cases y : (decide (((k : Nat) : Int) < ((l.length : Nat) : Int))) && (decide (((l2.length : Nat) : Int) < 60))
 try simp only [zf] at y
 refine zi rfl (zU (zI (za (R0 fun _ => st (mV vo (st (aS vo (zb (zm (zL Tryd.results22 (show _ = (vo : Value) from rfl) ?_))))))))))
 refine ⟨vo, l2, rfl, ?_, ?_, g⟩
 exact u
 exact hft
 try simp only [zf] at y
 refine zj rfl (zk (za (zn (za (zw kr (st (mV vl (st (mV (Iw k) ?_)))))))))
 have M : k < l.length := bo
 refine st (ze (k := 10) (i := k) sT mT rfl hl.sl rfl M (st (xo rfl ?_)))
 have m : k < l.length := bo
 obtain ⟨o, d, q⟩ := hl.evD m
 have hsm17 : ((l.getD k default).deps).length * 8 ≤ 140737488355328 := d.small
 have D := g.cells o (hl.foot (ne_of_lt m))
 refine st (lD ac wT rfl (D.get (j := 3) rfl) (st (zA (n := ((l.getD k default).deps).length) mR rfl d.sl (st (mV (Iv n) (st (zF (k := .i64) (a := ((((l.getD k default).deps).length : Nat) : Int)) (b := n) rfl rfl (st (mV (.bool (decide (((((l.getD k default).deps).length : Nat) : Int) = n))) (stc (V := vl) rfl rfl (fun N => ?_) ?_))))))))))
 have hl20 := tD N
 exact mV vl ⟨rfl, rfl⟩
 refine stc (V := Iw k) rfl rfl (fun O => ?_) ?_
 have hl22 := tD O
 exact mV (Iw k) ⟨rfl, rfl⟩
 refine stc (V := Ix (sb vl) (so vl + k * 10)) rfl rfl (fun s => ?_) ?_
 have hl24 := tD s
 have Q : k < l.length := bo
 exact ze (k := 10) (i := k) sT mT (if_pos s) hl.sl (if_pos s) Q ⟨rfl, rfl⟩
 refine stc (V := .agg ((l.getD k default).cells ac).toArray) rfl rfl (fun z => ?_) ?_
 have hl27 := tD z
 have E := g.cells o (hl.foot (ne_of_lt m))
 exact zg (k := 10) oT mT rfl (if_pos z) E ⟨rfl, rfl⟩
 refine stc (V := Iv n) rfl rfl (fun R => ?_) ?_
 have hl31 := tD R
 exact mV (Iv n) ⟨rfl, rfl⟩
 cases f : decide (((((l.getD k default).deps).length : Nat) : Int) = n)
 have hg32r := f
 have f := fD f
 refine stx rfl rfl (stx rfl rfl (st (zO (v := .bool false) rfl rfl (zb (zi rfl (zk (R0 fun _ => st (mV (Iw k) ?_))))))))
 have S : InR ((k + 1 : Nat) : Int) := bo
 refine st (zH (r := ((k + 1 : Nat) : Int)) (k := .i64) (a := ((k : Nat) : Int)) (b := 1) rfl rfl (by rw [show (((k : Nat) : Int) + 1 : Int) = ((k + 1 : Nat) : Int) from bo]; exact zz S) (st (aS (Iw (k + 1)) (zb ?_))))
 exact ⟨_, by omega, k + 1, vo, l2, _, rfl, sSf, by omega, u, hft, g⟩
 have f := tD f
 refine sty rfl rfl (cL Tryd.call55 (Qp (e := (l.getD k default)) (n := n) d q hn g) ?_)
 rintro _ w37 ⟨A, rfl, hc935, F, t⟩
 refine sty rfl rfl (zF (k := .i64) (a := A) (b := 0) rfl rfl (st (zN (v := .bool (decide (A = 0))) rfl rfl (zb ?_))))
 cases p : decide (A = 0)
 have p := fD p
 refine zi rfl (zk (R0 fun _ => st (mV (Iw k) ?_)))
 have T : InR ((k + 1 : Nat) : Int) := bo
 refine st (zH (r := ((k + 1 : Nat) : Int)) (k := .i64) (a := ((k : Nat) : Int)) (b := 1) rfl rfl (by rw [show (((k : Nat) : Int) + 1 : Int) = ((k + 1 : Nat) : Int) from bo]; exact zz T) (st (aS (Iw (k + 1)) (zb ?_))))
 exact ⟨_, by omega, k + 1, vo, l2, _, rfl, sSf, by omega, u, hft, t⟩
 have p := tD p
 refine zj rfl (R0 fun _ => st (mV vo (st (mV vl (st (mV (Iw k) ?_))))))
 have U : k < l.length := bo
 refine st (ze (k := 10) (i := k) sT mT rfl hl.sl rfl U ?_)
 have H := t.cells o (hl.foot (ne_of_lt m))
 refine st (zg (k := 10) oT mT rfl rfl H (st (zu (k := 10) (parts' := [(0, .agg ((l.getD k default).cells ac).toArray)]) (c := ((l.getD k default).cells ac).toArray) sT mT vT dc rfl kr ?_)))
 intro w46 b45 X
 have B := t.new X
 have I := B.b0
 refine st (yj (src := (shr G W)) (bytes := 96) (x1 := (l.getD k default)) ((B.s2_b).emp1) Jb rfl rfl I (fun _ _ _ => (show _ from ⟨_, rfl, d, q⟩)) yqb rfl ?_)
 intro L w48 C
 have Y := C.r0
 have hr54s : _ * 96 ≤ _ := Y.2
 refine st (aS L (zb (R0 fun _ => st (mV (Iw k) ?_))))
 have Z : InR ((k + 1 : Nat) : Int) := bo
 refine st (zH (r := ((k + 1 : Nat) : Int)) (k := .i64) (a := ((k : Nat) : Int)) (b := 1) rfl rfl (by rw [show (((k : Nat) : Int) + 1 : Int) = ((k + 1 : Nat) : Int) from bo]; exact zz Z) (st (aS (Iw (k + 1)) (zb ?_))))
 exact ⟨_, by omega, k + 1, L, (l2 ++ [(l.getD k default)]), _, rfl, sSf, by omega, (by rw [List.length_append, List.length_singleton]; omega), (QP (P := fun e => Uf e n) hft (F (by omega))), C⟩

theorem YF {G : Nat → Prop} {W w : World} {Rs : List HP} {a : Ev} {da0 : Value} (hda0 : RdS W G da0 a.deps) (oa : a.Ok) {b : Ev} {db0 : Value} (hdb0 : RdS W G db0 b.deps) (ob : b.Ok) (hS0 : Sep G W Rs w) : Ret Tryd.prog 39 [.agg (a.cells da0).toArray, .agg (b.cells db0).toArray] w (fun r w' => r = (.bool (decide (a = b)) : Value) ∧ Sep G W Rs w') := by
 have hda0s : _ * 8 ≤ _ := hda0.small
 have hdb0s : _ * 8 ≤ _ := hdb0.small
 refine zl (args := [.agg (a.cells da0).toArray, .agg (b.cells db0).toArray]) Tryd.func39 rfl rfl ?_
 refine za (R0 fun _ => st (zR (v := .agg (a.cells da0).toArray) rfl ?_))
 intro w3 b2 aX
 refine st (zR (v := .agg (b.cells db0).toArray) rfl ?_)
 intro w7 g aY
 have d := (hS0.new aX).new aY
 refine st (aS (.bool false) (zb (za (zw kr (st (yP rfl (st (zg (k := 2) (cs := [Iv (a.origin), Iv (a.seq)]) tT uT rfl rfl (CellsAt.sub (CellsAt.all (d.b1)) 0 (cs2 := [Iv (a.origin), Iv (a.seq)]) rfl) (st (yP rfl (st (zg (k := 2) (cs := [Iv (b.origin), Iv (b.seq)]) tT uT rfl rfl (CellsAt.sub (CellsAt.all (d.b0)) 0 (cs2 := [Iv (b.origin), Iv (b.seq)]) rfl) (st (xH (e := decide (a.origin = b.origin ∧ a.seq = b.seq)) (xs := #[Iv (a.origin), Iv (a.seq)]) (ys := #[Iv (b.origin), Iv (b.seq)]) Wa rfl rfl (st (mV (.bool (decide (a.origin = b.origin ∧ a.seq = b.seq))) (stc (V := Ix b2 2) rfl rfl (fun aZ => ?_) ?_)))))))))))))))))
 have hl10 := tD aZ
 exact VN rfl ⟨rfl, rfl⟩
 refine stc (V := Iv (a.lam)) rfl rfl (fun q => ?_) ?_
 have hl12 := tD q
 exact lD (Iv (a.lam)) lT (if_pos q) (zd (d.b1) rfl) ⟨rfl, rfl⟩
 refine stc (V := Ix g 2) rfl rfl (fun M => ?_) ?_
 have hl14 := tD M
 exact VN rfl ⟨rfl, rfl⟩
 refine stc (V := Iv (b.lam)) rfl rfl (fun s => ?_) ?_
 have hl16 := tD s
 exact lD (Iv (b.lam)) lT (if_pos s) (zd (d.b0) rfl) ⟨rfl, rfl⟩
 refine stc (V := .bool (decide (a.lam = b.lam))) rfl rfl (fun h => ?_) ?_
 have hl18 := tD h
 exact zF (k := .i64) (a := a.lam) (b := b.lam) (if_pos h) (if_pos h) ⟨rfl, rfl⟩
 refine st (zo (b := decide (a.origin = b.origin ∧ a.seq = b.seq)) (b' := decide (a.lam = b.lam)) rfl (fun hbp => (if_pos hbp)) (st (mV (.bool ((decide (a.origin = b.origin ∧ a.seq = b.seq)) && (decide (a.lam = b.lam)))) (stc (V := Ix b2 3) rfl rfl (fun N => ?_) ?_))))
 have O := N
 try simp only [zf] at O
 exact xo rfl ⟨rfl, rfl⟩
 refine stc (V := da0) rfl rfl (fun t => ?_) ?_
 have P := t
 try simp only [zf] at P
 exact lD da0 wT (if_pos t) (zd (d.b1) rfl) ⟨rfl, rfl⟩
 refine stc (V := Ix g 3) rfl rfl (fun Q => ?_) ?_
 have R := Q
 try simp only [zf] at R
 exact xo rfl ⟨rfl, rfl⟩
 refine stc (V := db0) rfl rfl (fun u => ?_) ?_
 have S := u
 try simp only [zf] at S
 exact lD db0 wT (if_pos u) (zd (d.b0) rfl) ⟨rfl, rfl⟩
 refine KG (V := .bool (decide (a.deps = b.deps))) (fun _ wq => Sep G W ((Blk g (b.cells db0).toArray 59) :: (Blk b2 (a.cells da0).toArray 59) :: Rs) wq) d rfl rfl (fun i => ?_) (fun w31 c => ?_)
 have T := i
 try simp only [zf] at T
 refine (zV (f := 19) (vals := [da0, db0]) (cap := []) rfl (yH ⟨(if_pos i), (if_pos i), trivial⟩) mY (Xw (a := a.deps) (va := da0) (b := b.deps) (vb := db0) hda0 hdb0 d) ?_)
 rintro _ w29 ⟨rfl, U⟩
 exact ⟨rfl, U⟩
 refine st (zo (b := (decide (a.origin = b.origin ∧ a.seq = b.seq)) && (decide (a.lam = b.lam))) (b' := decide (a.deps = b.deps)) rfl (fun hbp => (if_pos hbp)) (st (mV (.bool (((decide (a.origin = b.origin ∧ a.seq = b.seq)) && (decide (a.lam = b.lam))) && (decide (a.deps = b.deps)))) (stc (V := Ix b2 4) rfl rfl (fun X => ?_) ?_))))
 have Y := X
 try simp only [zf] at Y
 exact yB rfl ⟨rfl, rfl⟩
 refine stc (V := Iv (a.typ)) rfl rfl (fun x => ?_) ?_
 have Z := x
 try simp only [zf] at Z
 exact lD (Iv (a.typ)) lT (if_pos x) (zd (c.b1) rfl) ⟨rfl, rfl⟩
 refine stc (V := Ix g 4) rfl rfl (fun aa => ?_) ?_
 have ab := aa
 try simp only [zf] at ab
 exact yB rfl ⟨rfl, rfl⟩
 refine stc (V := Iv (b.typ)) rfl rfl (fun y => ?_) ?_
 have ac := y
 try simp only [zf] at ac
 exact lD (Iv (b.typ)) lT (if_pos y) (zd (c.b0) rfl) ⟨rfl, rfl⟩
 refine stc (V := .bool (decide (a.typ = b.typ))) rfl rfl (fun j => ?_) ?_
 have ad := j
 try simp only [zf] at ad
 exact zF (k := .i64) (a := a.typ) (b := b.typ) (if_pos j) (if_pos j) ⟨rfl, rfl⟩
 refine st (zo (b := ((decide (a.origin = b.origin ∧ a.seq = b.seq)) && (decide (a.lam = b.lam))) && (decide (a.deps = b.deps))) (b' := decide (a.typ = b.typ)) rfl (fun hbp => (if_pos hbp)) (st (mV (.bool ((((decide (a.origin = b.origin ∧ a.seq = b.seq)) && (decide (a.lam = b.lam))) && (decide (a.deps = b.deps))) && (decide (a.typ = b.typ)))) (stc (V := Ix b2 5) rfl rfl (fun ae => ?_) ?_))))
 have af := ae
 try simp only [zf] at af
 exact xl rfl ⟨rfl, rfl⟩
 refine stc (V := Iv (a.agg)) rfl rfl (fun z => ?_) ?_
 have ag := z
 try simp only [zf] at ag
 exact lD (Iv (a.agg)) lT (if_pos z) (zd (c.b1) rfl) ⟨rfl, rfl⟩
 refine stc (V := Ix g 5) rfl rfl (fun ah => ?_) ?_
 have ai := ah
 try simp only [zf] at ai
 exact xl rfl ⟨rfl, rfl⟩
 refine stc (V := Iv (b.agg)) rfl rfl (fun A => ?_) ?_
 have aj := A
 try simp only [zf] at aj
 exact lD (Iv (b.agg)) lT (if_pos A) (zd (c.b0) rfl) ⟨rfl, rfl⟩
 refine stc (V := .bool (decide (a.agg = b.agg))) rfl rfl (fun l => ?_) ?_
 have ak := l
 try simp only [zf] at ak
 exact zF (k := .i64) (a := a.agg) (b := b.agg) (if_pos l) (if_pos l) ⟨rfl, rfl⟩
 refine st (zo (b := (((decide (a.origin = b.origin ∧ a.seq = b.seq)) && (decide (a.lam = b.lam))) && (decide (a.deps = b.deps))) && (decide (a.typ = b.typ))) (b' := decide (a.agg = b.agg)) rfl (fun hbp => (if_pos hbp)) (st (mV (.bool (((((decide (a.origin = b.origin ∧ a.seq = b.seq)) && (decide (a.lam = b.lam))) && (decide (a.deps = b.deps))) && (decide (a.typ = b.typ))) && (decide (a.agg = b.agg)))) (stc (V := Ix b2 6) rfl rfl (fun al => ?_) ?_))))
 have am := al
 try simp only [zf] at am
 exact yU rfl ⟨rfl, rfl⟩
 refine stc (V := Iv (a.field)) rfl rfl (fun B => ?_) ?_
 have an := B
 try simp only [zf] at an
 exact lD (Iv (a.field)) lT (if_pos B) (zd (c.b1) rfl) ⟨rfl, rfl⟩
 refine stc (V := Ix g 6) rfl rfl (fun ao => ?_) ?_
 have ap := ao
 try simp only [zf] at ap
 exact yU rfl ⟨rfl, rfl⟩
 refine stc (V := Iv (b.field)) rfl rfl (fun C => ?_) ?_
 have aq := C
 try simp only [zf] at aq
 exact lD (Iv (b.field)) lT (if_pos C) (zd (c.b0) rfl) ⟨rfl, rfl⟩
 refine stc (V := .bool (decide (a.field = b.field))) rfl rfl (fun m => ?_) ?_
 have ar := m
 try simp only [zf] at ar
 exact zF (k := .i64) (a := a.field) (b := b.field) (if_pos m) (if_pos m) ⟨rfl, rfl⟩
 refine st (zo (b := ((((decide (a.origin = b.origin ∧ a.seq = b.seq)) && (decide (a.lam = b.lam))) && (decide (a.deps = b.deps))) && (decide (a.typ = b.typ))) && (decide (a.agg = b.agg))) (b' := decide (a.field = b.field)) rfl (fun hbp => (if_pos hbp)) (st (mV (.bool ((((((decide (a.origin = b.origin ∧ a.seq = b.seq)) && (decide (a.lam = b.lam))) && (decide (a.deps = b.deps))) && (decide (a.typ = b.typ))) && (decide (a.agg = b.agg))) && (decide (a.field = b.field)))) (stc (V := Ix b2 7) rfl rfl (fun au => ?_) ?_))))
 have av := au
 try simp only [zf] at av
 exact xh rfl ⟨rfl, rfl⟩
 refine stc (V := Iv (a.op)) rfl rfl (fun D => ?_) ?_
 have aw := D
 try simp only [zf] at aw
 exact lD (Iv (a.op)) lT (if_pos D) (zd (c.b1) rfl) ⟨rfl, rfl⟩
 refine stc (V := Ix g 7) rfl rfl (fun ax => ?_) ?_
 have ay := ax
 try simp only [zf] at ay
 exact xh rfl ⟨rfl, rfl⟩
 refine stc (V := Iv (b.op)) rfl rfl (fun E => ?_) ?_
 have az := E
 try simp only [zf] at az
 exact lD (Iv (b.op)) lT (if_pos E) (zd (c.b0) rfl) ⟨rfl, rfl⟩
 refine stc (V := .bool (decide (a.op = b.op))) rfl rfl (fun n => ?_) ?_
 have aA := n
 try simp only [zf] at aA
 exact zF (k := .i64) (a := a.op) (b := b.op) (if_pos n) (if_pos n) ⟨rfl, rfl⟩
 refine st (zo (b := (((((decide (a.origin = b.origin ∧ a.seq = b.seq)) && (decide (a.lam = b.lam))) && (decide (a.deps = b.deps))) && (decide (a.typ = b.typ))) && (decide (a.agg = b.agg))) && (decide (a.field = b.field))) (b' := decide (a.op = b.op)) rfl (fun hbp => (if_pos hbp)) (st (mV (.bool (((((((decide (a.origin = b.origin ∧ a.seq = b.seq)) && (decide (a.lam = b.lam))) && (decide (a.deps = b.deps))) && (decide (a.typ = b.typ))) && (decide (a.agg = b.agg))) && (decide (a.field = b.field))) && (decide (a.op = b.op)))) (stc (V := Ix b2 8) rfl rfl (fun aB => ?_) ?_))))
 have aC := aB
 try simp only [zf] at aC
 exact xg rfl ⟨rfl, rfl⟩
 refine stc (V := Iv (a.arg)) rfl rfl (fun F => ?_) ?_
 have aD := F
 try simp only [zf] at aD
 exact lD (Iv (a.arg)) lT (if_pos F) (zd (c.b1) rfl) ⟨rfl, rfl⟩
 refine stc (V := Ix g 8) rfl rfl (fun aE => ?_) ?_
 have aF := aE
 try simp only [zf] at aF
 exact xg rfl ⟨rfl, rfl⟩
 refine stc (V := Iv (b.arg)) rfl rfl (fun H => ?_) ?_
 have aG := H
 try simp only [zf] at aG
 exact lD (Iv (b.arg)) lT (if_pos H) (zd (c.b0) rfl) ⟨rfl, rfl⟩
 refine stc (V := .bool (decide (a.arg = b.arg))) rfl rfl (fun o => ?_) ?_
 have aH := o
 try simp only [zf] at aH
 exact zF (k := .i64) (a := a.arg) (b := b.arg) (if_pos o) (if_pos o) ⟨rfl, rfl⟩
 refine st (zo (b := ((((((decide (a.origin = b.origin ∧ a.seq = b.seq)) && (decide (a.lam = b.lam))) && (decide (a.deps = b.deps))) && (decide (a.typ = b.typ))) && (decide (a.agg = b.agg))) && (decide (a.field = b.field))) && (decide (a.op = b.op))) (b' := decide (a.arg = b.arg)) rfl (fun hbp => (if_pos hbp)) (st (mV (.bool ((((((((decide (a.origin = b.origin ∧ a.seq = b.seq)) && (decide (a.lam = b.lam))) && (decide (a.deps = b.deps))) && (decide (a.typ = b.typ))) && (decide (a.agg = b.agg))) && (decide (a.field = b.field))) && (decide (a.op = b.op))) && (decide (a.arg = b.arg)))) (stc (V := Ix b2 9) rfl rfl (fun aI => ?_) ?_))))
 have aJ := aI
 try simp only [zf] at aJ
 exact VV rfl ⟨rfl, rfl⟩
 refine stc (V := Iv (a.key)) rfl rfl (fun I => ?_) ?_
 have aK := I
 try simp only [zf] at aK
 exact lD (Iv (a.key)) lT (if_pos I) (zd (c.b1) rfl) ⟨rfl, rfl⟩
 refine stc (V := Ix g 9) rfl rfl (fun aL => ?_) ?_
 have aM := aL
 try simp only [zf] at aM
 exact VV rfl ⟨rfl, rfl⟩
 refine stc (V := Iv (b.key)) rfl rfl (fun J => ?_) ?_
 have aN := J
 try simp only [zf] at aN
 exact lD (Iv (b.key)) lT (if_pos J) (zd (c.b0) rfl) ⟨rfl, rfl⟩
 refine stc (V := .bool (decide (a.key = b.key))) rfl rfl (fun p => ?_) ?_
 have aO := p
 try simp only [zf] at aO
 exact zF (k := .i64) (a := a.key) (b := b.key) (if_pos p) (if_pos p) ⟨rfl, rfl⟩
 refine st (zo (b := (((((((decide (a.origin = b.origin ∧ a.seq = b.seq)) && (decide (a.lam = b.lam))) && (decide (a.deps = b.deps))) && (decide (a.typ = b.typ))) && (decide (a.agg = b.agg))) && (decide (a.field = b.field))) && (decide (a.op = b.op))) && (decide (a.arg = b.arg))) (b' := decide (a.key = b.key)) rfl (fun hbp => (if_pos hbp)) (st (aS (.bool (((((((((decide (a.origin = b.origin ∧ a.seq = b.seq)) && (decide (a.lam = b.lam))) && (decide (a.deps = b.deps))) && (decide (a.typ = b.typ))) && (decide (a.agg = b.agg))) && (decide (a.field = b.field))) && (decide (a.op = b.op))) && (decide (a.arg = b.arg))) && (decide (a.key = b.key)))) (zb (zm (zL Tryd.results39 (show _ = (.bool (((((((((decide (a.origin = b.origin ∧ a.seq = b.seq)) && (decide (a.lam = b.lam))) && (decide (a.deps = b.deps))) && (decide (a.typ = b.typ))) && (decide (a.agg = b.agg))) && (decide (a.field = b.field))) && (decide (a.op = b.op))) && (decide (a.arg = b.arg))) && (decide (a.key = b.key))) : Value) from rfl) ?_))))))
 refine ⟨?_, (c.s2_)⟩
 congr 1
 rw [Bool.eq_iff_iff]
 simp only [Bool.and_eq_true, decide_eq_true_eq, Ev.eq_iff]
 constructor
 rintro ⟨⟨⟨⟨⟨⟨⟨⟨L, h3⟩, h4⟩, h5⟩, h6⟩, h7⟩, h8⟩, h9⟩, K⟩; exact ⟨L.1, L.2, h3, h4, h5, h6, h7, h8, h9, K⟩
 rintro ⟨L, h2, h3, h4, h5, h6, h7, h8, h9, K⟩; exact ⟨⟨⟨⟨⟨⟨⟨⟨⟨L, h2⟩, h3⟩, h4⟩, h5⟩, h6⟩, h7⟩, h8⟩, h9⟩, K⟩

theorem yqi {p : Prop} (h : p := by decide +kernel) : p := h
theorem yqh {p : Prop} (h : p := by first | omega | decide +kernel) : p := h

def zS (p : Int) : Dcl := ⟨[(⟨[(⟨2, p, false, []⟩ : Fld)]⟩ : Typ)], []⟩
def evA : Ev := ⟨0, 1, 1, [0, 0], 0, 0, 0, 2, 1, 0⟩
def evB : Ev := ⟨1, 1, 2, [0, 0], 0, 0, 0, 2, 2, 0⟩
def evC : Ev := ⟨1, 2, 3, [0, 1], 0, 0, 0, 2, 3, 0⟩
def kx : List Ent := zY (zS 2) [evA, evB, evC]
def ky : List Ent := zY (zS 3) [evB, evA, evC]
theorem ZQ (p : Int) : DclOk (zS p) := by
  have one : ∀ {P : Nat → Prop}, P 0 → ∀ i, i < 1 → P i := fun {P} h i hi => (show i = 0 by omega) ▸ h
  refine ⟨Nat.le_refl 1, (by show 1 ≤ 8; decide), one (P := fun i => TypOk ((zS p).types.getD i default)) ?_⟩
  refine ⟨Nat.le_refl 1, (by show 1 ≤ 8; decide), ?_, ?_, ?_, ?_⟩
  · intro i hi; obtain rfl : i = 0 := by have : i < 1 := hi; omega
    exact ⟨(by decide : (1 : Int) ≤ 2), (by decide : (2 : Int) ≤ 4)⟩
  · intro i hi h; obtain rfl : i = 0 := by have : i < 1 := hi; omega
    cases h
  · intro i hi; obtain rfl : i = 0 := by have : i < 1 := hi; omega
    exact ⟨fun h => absurd h (by show ¬ (2 : Int) = 4; decide), Nat.zero_le _⟩
  · intro i hi j hj; obtain rfl : i = 0 := by have : i < 1 := hi; omega
    exact absurd hj (Nat.not_lt_zero j)
theorem XZ {G : Nat → Prop} {W w : World} {Rs : List HP} {o : Int} (ho : InR o) {sq : Int} (hsq : InR sq) {lm : Int} (hlm : InR lm) {ar : Int} (har : InR ar) {vdp : Value} {dp : List Int} (hdp : RdS W G vdp dp) (hS0 : Sep G W Rs w) : Ret Tryd.prog 43 [.int .i64 (o), .int .i64 (sq), .int .i64 (lm), .int .i64 (ar), vdp] w (fun r w' => r = (.agg ((⟨o, sq, lm, dp, 0, 0, 0, 2, ar, 0⟩ : Ev).cells vdp).toArray : Value) ∧ ((⟨o, sq, lm, dp, 0, 0, 0, 2, ar, 0⟩ : Ev).Ok) ∧ Sep G W Rs w') := by
 have hdps : _ * 8 ≤ _ := hdp.small
 refine zl (args := [Iv o, Iv sq, Iv lm, Iv ar, vdp]) Tryd.func43 rfl rfl ?_
 refine za (R0 fun _ => st (zr vT ?_))
 intro w3 b2 d
 have a := hS0.new d
 refine zb (za (yD (by kernel_rfl) (fun _ => (st (mV (Iv o) (st (mV (Iv sq) (st (zQ (parts' := [(0, Iv o), (1, Iv sq)]) (v := .agg #[Iv o, Iv sq]) rfl yqf (st (mV (Iv lm) (st (mV vdp (st (mV (Iv ar) ?_)))))))))))))))
 have e : Ev.Ok (⟨o, sq, lm, dp, 0, 0, 0, 2, ar, 0⟩ : Ev) := ⟨(show InR (o) from ho), (show InR (sq) from hsq), (show InR (lm) from hlm), (show InR (0) from dc), (show InR (0) from dc), (show InR (0) from dc), (show InR (2) from dc), (show InR (ar) from har), (show InR (0) from dc)⟩
 refine st (zQ (parts' := [(0, .agg #[Iv o, Iv sq]), (1, Iv lm), (2, vdp), (6, Iv 2), (7, Iv ar)]) (v := .agg ((⟨o, sq, lm, dp, 0, 0, 0, 2, ar, 0⟩ : Ev).cells vdp).toArray) rfl (by obtain ⟨_, _, f, _⟩ := hdp.sl; rw [show vdp = Value.slice _ _ _ from f]; simp [Instr.build, Instr.fill, Ev.cells, go_sem, Mv.cells, Fld.cells, Typ.cells, Prj.cells, Dcl.cells, Cel.cells, AskR.cells, Ask.cells, CelS.cells, Ev.cells, Ent.cells, Sta.cells]) (stn (zp (v := .agg ((⟨o, sq, lm, dp, 0, 0, 0, 2, ar, 0⟩ : Ev).cells vdp).toArray) (c' := ((⟨o, sq, lm, dp, 0, 0, 0, 2, ar, 0⟩ : Ev).cells vdp).toArray) mT rfl rfl (a.b0) (zW ⟨rfl, rfl, rfl, hdp.sl.one, rfl, rfl, rfl, rfl, rfl, rfl, trivial⟩) (Nat.le_of_ble_eq_true rfl) rfl ?_)))
 intro w7 g
 have c := a.pt0 g
 refine zb (zm (XK (b := b2) Tryd.results43 oT mT rfl rfl (CellsAt.all (c.b0)) ?_))
 refine ⟨rfl, ?_, (c.s1_)⟩
 exact e

theorem xA {G : Nat → Prop} {W w : World} {Rs : List HP} {p : Int} (hp : InR p) (hS0 : Sep G W Rs w) : Ret Tryd.prog 44 [.int .i64 (p)] w (fun r w' => ∃ (bt : Nat) (bf : Nat), r = (.agg #[(.slice (some ⟨bt, 0, none⟩) 1 1), .slice none 0 0] : Value) ∧ Sep G W ((Blk bt #[(.slice (some ⟨bf, 0, none⟩) 1 1)] 33) :: (Blk bf #[.int .i64 (2), .int .i64 (p), .bool false, .slice none 0 0] 79) :: Rs) w') := by
 refine zl (args := [Iv p]) Tryd.func44 rfl rfl ?_
 refine za (R0 fun _ => st (zr Tryd.zeroValue25 ?_))
 intro w3 b2 h
 refine zb (za (yD (by kernel_rfl) (fun _ => (st (mV (Iv p) (st (zQ (parts' := [(0, Iv 2), (1, Iv p)]) (v := .agg #[Iv 2, Iv p, .bool false, (Iz)]) rfl yqf (st (zu (k := 4) (parts' := [(0, .agg #[Iv 2, Iv p, .bool false, (Iz)])]) (c := #[Iv 2, Iv p, .bool false, (Iz)]) Tryd.underlying31 Tryd.sizeOf79 Tryd.zeroValue79 (by decide) rfl (by kernel_rfl) ?_)))))))))
 intro w7 d i
 refine st (zQ (parts' := [(0, (Iy d 1 1))]) (v := .agg #[(Iy d 1 1)]) rfl yqf (st (zu (k := 1) (parts' := [(0, .agg #[(Iy d 1 1)])]) (c := #[(Iy d 1 1)]) Tryd.underlying22 Tryd.sizeOf33 Tryd.zeroValue33 (by decide) rfl (by kernel_rfl) ?_)))
 intro w11 a j
 have e := ((hS0.new h).new i).new j
 refine st (zQ (parts' := [(0, (Iy a 1 1))]) (v := .agg #[(Iy a 1 1), (Iz)]) rfl yqf (stn (zp (v := .agg #[(Iy a 1 1), (Iz)]) (c' := #[(Iy a 1 1), (Iz)]) qR rfl rfl (e.b2) (zW ⟨rfl, rfl, trivial⟩) yqc rfl ?_)))
 intro w13 g
 have f := e.pt2 g
 refine zb (zm (XK (b := b2) Tryd.results44 sR qR rfl rfl (CellsAt.all (f.b2)) ?_))
 refine ⟨a, d, rfl, (f.s3_ab)⟩

set_option maxHeartbeats 8000000 in
set_option maxRecDepth 20000 in
theorem xj {G : Nat → Prop} {W w : World} {Rs : List HP} (hKN : RdS W G (.slice (some ⟨0, 0, none⟩) 6 6) kindsL) (hS0 : Sep G W Rs w) : Ret Tryd.prog 21 [] w (fun r w' => r = (.bool true : Value) ∧ Sep G W Rs w') := by
 have hKNs : _ * 8 ≤ _ := hKN.small
 refine zl (args := []) Tryd.func21 rfl rfl ?_
 refine za (R0 fun _ => st (aS (.bool false) (zb (za (R0 fun _ => st (zu (k := 1) (parts' := [(0, Iv 0), (1, Iv 0)]) (c := #[Iv 0, Iv 0]) mR pR tR dc rfl kr ?_))))))
 intro w3 b2 iZ
 let ji := RwI (Iy b2 2 2) [0, 0]
 let jd := evA.cells (Iy b2 2 2)
 let jc := ((⟨0, 1, 1, [0, 0], 0, 0, 0, 2, 1, 0⟩ : Ev).cells (Iy b2 2 2))
 have hT : Sep G W (ji :: Rs) w3 := Sep.blkRow (src := own) (l := [0, 0]) (css := [[Iv 0], [Iv 0]]) (hS0.new iZ) rfl ⟨fun _ _ => ⟨rfl, (by decide)⟩, fun _ _ => ⟨rfl, (by decide)⟩, trivial⟩ yqa
 have hU := hT.r0
 have hr6s : _ * 8 ≤ _ := hU.2
 obtain ⟨G7, ja, hB10, hV, hW⟩ := hT.lend
 have cz := RowE.rd ja
 have hrd13s : _ * 8 ≤ _ := cz.small
 refine st (cL uR (XZ (o := 0) (sq := 1) (lm := 1) (ar := 1) (dp := [0, 0]) (vdp := (Iy b2 2 2)) dc dc dc dc cz hV) ?_)
 rintro _ w15 ⟨rfl, fJ, hX⟩
 have hY := hW _ _ hX
 refine st (zr vT ?_)
 intro w20 R hZ
 let jg := Blk R jd.toArray 59
 have dI := hY.new hZ
 refine stn (zp (v := .agg jc.toArray) (c' := jc.toArray) mT rfl rfl (dI.b0) (zW ⟨rfl, rfl, rfl, hU.1.one, rfl, rfl, rfl, rfl, rfl, rfl, trivial⟩) yqc rfl ?_)
 intro w22 ia
 refine zb (za (R0 fun _ => st (zu (k := 1) (parts' := [(0, Iv 0), (1, Iv 0)]) (c := #[Iv 0, Iv 0]) mR pR tR dc rfl kr ?_)))
 intro w27 z ib
 let jj := RwI (Iy z 2 2) [0, 0]
 let je := evB.cells (Iy z 2 2)
 let fD := ((⟨1, 1, 2, [0, 0], 0, 0, 0, 2, 2, 0⟩ : Ev).cells (Iy z 2 2))
 have dJ : Sep _ _ (jj :: _) _ := Sep.blkRow (src := own) (l := [0, 0]) (css := [[Iv 0], [Iv 0]]) ((dI.pt0 ia).new ib) rfl ⟨fun _ _ => ⟨rfl, (by decide)⟩, fun _ _ => ⟨rfl, (by decide)⟩, trivial⟩ yqa
 have dK := dJ.r0
 have hr30s : _ * 8 ≤ _ := dK.2
 obtain ⟨G31, ic, hB34, id, ie⟩ := dJ.lend
 have cA := RowE.rd ic
 have hrd37s : _ * 8 ≤ _ := cA.small
 refine st (cL uR (XZ (o := 1) (sq := 1) (lm := 2) (ar := 2) (dp := [0, 0]) (vdp := (Iy z 2 2)) dc dc dc dc cA id) ?_)
 rintro _ w39 ⟨rfl, fK, ig⟩
 have ih := ie _ _ ig
 refine st (zr vT ?_)
 intro w44 S ii
 let jh := Blk S je.toArray 59
 have dL := ih.new ii
 refine stn (zp (v := .agg fD.toArray) (c' := fD.toArray) mT rfl rfl (dL.b0) (zW ⟨rfl, rfl, rfl, dK.1.one, rfl, rfl, rfl, rfl, rfl, rfl, trivial⟩) yqc rfl ?_)
 intro w46 ij
 refine zb (za (R0 fun _ => st (zu (k := 1) (parts' := [(0, Iv 0), (1, Iv 1)]) (c := #[Iv 0, Iv 1]) mR pR tR dc rfl kr ?_)))
 intro w51 A ik
 let jk := RwI (Iy A 2 2) [0, 1]
 let jf := evC.cells (Iy A 2 2)
 let bo := ((⟨1, 2, 3, [0, 1], 0, 0, 0, 2, 3, 0⟩ : Ev).cells (Iy A 2 2))
 have dM : Sep _ _ (jk :: _) _ := Sep.blkRow (src := own) (l := [0, 1]) (css := [[Iv 0], [Iv 1]]) ((dL.pt0 ij).new ik) rfl ⟨fun _ _ => ⟨rfl, (by decide)⟩, fun _ _ => ⟨rfl, (by decide)⟩, trivial⟩ yqa
 have dN := dM.r0
 have hr54s : _ * 8 ≤ _ := dN.2
 obtain ⟨G55, il, hB58, im, io⟩ := dM.lend
 have cB := RowE.rd il
 have hrd61s : _ * 8 ≤ _ := cB.small
 refine st (cL uR (XZ (o := 1) (sq := 2) (lm := 3) (ar := 3) (dp := [0, 1]) (vdp := (Iy A 2 2)) dc dc dc dc cB im) ?_)
 rintro _ w63 ⟨rfl, fL, ip⟩
 have iq := io _ _ ip
 refine st (zr vT ?_)
 intro w68 aa ir
 have dO := iq.new ir
 refine stn (zp (v := .agg bo.toArray) (c' := bo.toArray) mT rfl rfl (dO.b0) (zW ⟨rfl, rfl, rfl, dN.1.one, rfl, rfl, rfl, rfl, rfl, rfl, trivial⟩) yqc rfl ?_)
 intro M it
 refine zb (za ?_)
 have cC : evA.Ok := fJ
 have iu : Sep G W ((Blk aa bo.toArray 59) :: jk :: (Blk S fD.toArray 59) :: jj :: jg :: ji :: Rs) M := (dO.pt0 it)
 have cD : evB.Ok := fK
 have iv : Sep G W ((Blk aa bo.toArray 59) :: jk :: jh :: jj :: jg :: ji :: Rs) M := iu
 have cE : evC.Ok := fL
 have iw : Sep G W ((Blk aa jf.toArray 59) :: jk :: jh :: jj :: jg :: ji :: Rs) M := iv
 obtain ⟨G80, ix, dP, iy, iz⟩ := (iw.mv1).lend
 have au := RowE.rd ix
 have hrd86s : _ * 8 ≤ _ := au.small
 obtain ⟨G88, iA, av, iB, iC⟩ := (iy.mv2).lend
 have aw := RowE.rd iA
 have hrd94s : _ * 8 ≤ _ := aw.small
 obtain ⟨N, iD, ai, fM, fN⟩ := (iB.mv3).lend
 have am := RowE.rd iD
 have hrd102s : _ * 8 ≤ _ := am.small
 refine WD6 ((fun TT T => WF [fun vals Q => Sep N M (T :: TT) Q, fun vals Q => ∃ (s : Nat) (t : Nat), (vals 0 = (.agg #[(Iy s 1 1), Iz] : Value)) ∧ Sep N M ((Blk s #[(Iy t 1 1)] 33) :: (Blk t #[Iv 2, Iv 2, .bool false, Iz] 79) :: T :: TT) Q, fun vals Q => ∃ (F : Nat), (vals 4 = ((Iy F 3 3) : Value)) ∧ Sep N M ((Blk F (evA.cells (Iy b2 2 2) ++ evB.cells (Iy z 2 2) ++ evC.cells (Iy A 2 2)).toArray 59) :: T :: TT) Q, fun vals Q => ∃ (s : Nat) (t : Nat) (F : Nat), (vals 0 = (.agg #[(Iy s 1 1), Iz] : Value)) ∧ (vals 4 = ((Iy F 3 3) : Value)) ∧ Sep N M ((Blk F (evA.cells (Iy b2 2 2) ++ evB.cells (Iy z 2 2) ++ evC.cells (Iy A 2 2)).toArray 59) :: (Blk s #[(Iy t 1 1)] 33) :: (Blk t #[Iv 2, Iv 2, .bool false, Iz] 79) :: T :: TT) Q, fun _ _ => True, fun _ _ => True, fun _ _ => True, fun vals Q => ∃ (s : Nat) (t : Nat) (F : Nat) (y : Nat), (vals 0 = (.agg #[(Iy s 1 1), Iz] : Value)) ∧ (vals 4 = ((Iy F 3 3) : Value)) ∧ (vals 5 = (Ix y 0 : Value)) ∧ Sep N M ((RowE (α := Fld) (shr N M) 79 (Iy t 1 1) [(⟨2, 2, false, []⟩ : Fld)]) :: (ViewO y (zS 2) kx kx) :: T :: TT) Q]) (jh :: jg :: Rs) (Blk aa jf.toArray 59)) (AF [fun _ => True, Vl 1 (.agg jd.toArray), Vl 2 (.agg je.toArray), Vl 3 (.agg jf.toArray), fun _ => True, fun _ => True, fun vals => ∀ (y : Nat), vals 5 = (Ix y 0 : Value) → vals 6 = (Ix y 0 : Value)]) [[], [], [], [], [1, 2, 3], (rg 5), (rg 6)] [0, 4, 5] [[0, 2], [0, 1], [0, 1], [0, 1], [0, 1], [3], [7]] fM ⟨?_, ?_, ?_, ?_, ?_, ?_, ?_, trivial⟩ ?_ (hlocA := yT ⟨dT, dA, dA, dA, dT, dT, fun vals m B h => fun y ab => (B 6 (.inl rfl)).trans (h y ((B 5 (.inr dc)).symm.trans ab)), trivial⟩)
 intro iE vals w204 fO cF hA205
 have aF : iE ∈ [0, 2] := fO
 simp only [List.mem_cons, List.not_mem_nil, or_false] at aF
 rcases aF with rfl | rfl
 have fP : Sep _ _ _ _ := cF
 refine obl rfl ((cL rR (xA (p := 2) dc fP) ?_))
 rintro _ w211 ⟨s, t, rfl, fQ⟩
 exact fun m B L => ⟨(Exists.intro s (Exists.intro t (And.intro B fQ))), trivial⟩
 obtain ⟨F, U, fR⟩ := cF
 refine obl rfl ((cL rR (xA (p := 2) dc fR) ?_))
 rintro _ w216 ⟨s, t, rfl, fS⟩
 exact fun m B L => ⟨(Exists.intro s (Exists.intro t (Exists.intro F (And.intro B (And.intro ((L 4 dc).trans U) (fS.mv2)))))), trivial⟩
 intro iF vals w220 fT cG hA221
 have aG : iF ∈ [0, 1] := fT
 simp only [List.mem_cons, List.not_mem_nil, or_false] at aG
 rcases aG with rfl | rfl
 have fU : Sep _ _ _ _ := cG
 exact obl rfl (zg (k := 10) oT mT rfl rfl (CellsAt.all (fU.b2)) dR)
 obtain ⟨s, t, O, fV⟩ := cG
 exact obl rfl (zg (k := 10) oT mT rfl rfl (CellsAt.all (fV.b4)) dR)
 intro iG vals w227 fW cH hA228
 have aH : iG ∈ [0, 1] := fW
 simp only [List.mem_cons, List.not_mem_nil, or_false] at aH
 rcases aH with rfl | rfl
 have fX : Sep _ _ _ _ := cH
 exact obl rfl (zg (k := 10) oT mT rfl rfl (CellsAt.all (fX.b1)) dR)
 obtain ⟨s, t, O, fY⟩ := cH
 exact obl rfl (zg (k := 10) oT mT rfl rfl (CellsAt.all (fY.b3)) dR)
 intro iH vals w234 fZ cI hA235
 have aI : iH ∈ [0, 1] := fZ
 simp only [List.mem_cons, List.not_mem_nil, or_false] at aI
 rcases aI with rfl | rfl
 have ga : Sep _ _ _ _ := cI
 exact obl rfl (zg (k := 10) oT mT rfl rfl (CellsAt.all (ga.b0)) dR)
 obtain ⟨s, t, O, gc⟩ := cI
 exact obl rfl (zg (k := 10) oT mT rfl rfl (CellsAt.all (gc.b2)) dR)
 intro iI vals w241 gd cJ V
 have aJ : iI ∈ [0, 1] := gd
 simp only [List.mem_cons, List.not_mem_nil, or_false] at aJ
 rcases aJ with rfl | rfl
 have ge : Sep _ _ _ _ := cJ
 refine obl rfl ((zu (k := 10) (parts' := [(0, .agg jd.toArray), (1, .agg je.toArray), (2, .agg jf.toArray)]) (c := (evA.cells (Iy b2 2 2) ++ evB.cells (Iy z 2 2) ++ evC.cells (Iy A 2 2)).toArray) sT mT vT dc (xF ⟨rfl, (V 1 dc), rfl, (V 2 dc), rfl, (V 3 dc), trivial⟩) kr ?_))
 intro w251 F gf
 exact fun m B L => ⟨(Exists.intro F (And.intro B (ge.new gf))), trivial⟩
 obtain ⟨s, t, O, gg⟩ := cJ
 refine obl rfl ((zu (k := 10) (parts' := [(0, .agg jd.toArray), (1, .agg je.toArray), (2, .agg jf.toArray)]) (c := (evA.cells (Iy b2 2 2) ++ evB.cells (Iy z 2 2) ++ evC.cells (Iy A 2 2)).toArray) sT mT vT dc (xF ⟨rfl, (V 1 dc), rfl, (V 2 dc), rfl, (V 3 dc), trivial⟩) kr ?_))
 intro w259 F gh
 exact fun m B L => ⟨(Exists.intro s (Exists.intro t (Exists.intro F (And.intro ((L 0 dc).trans O) (And.intro B (gg.new gh)))))), trivial⟩
 intro iJ vals ax gi gj hA263
 have aK : iJ ∈ [3] := gi
 simp only [List.mem_cons, List.not_mem_nil, or_false] at aK
 subst aK
 obtain ⟨s, t, F, O, U, gk⟩ := gj
 refine obl rfl ?_
 have cK : Sep _ _ ((RowE (α := Fld) (shr N M) 79 (Iy t 1 1) [(⟨2, 2, false, []⟩ : Fld)]) :: _) _ := Sep.blkRow (src := (shr N M)) (l := [(⟨2, 2, false, []⟩ : Fld)]) (css := [(⟨2, 2, false, []⟩ : Fld).cells (Iz)]) (gk.mv2) rfl ⟨fun _ _ => ⟨_, rfl, (RdS.nil _ _), (show Fld.Ok (⟨2, 2, false, []⟩ : Fld) from ⟨by decide, by decide⟩)⟩, trivial⟩ yqa
 have gl := cK.r0
 have hr269s : _ * 48 ≤ _ := gl.2
 obtain ⟨dQ, gm, ac, gn, go⟩ := cK.lend
 have aL := RowE.rdB gm ac
 have hrd276s : _ * 48 ≤ _ := aL.small
 have cM : Sep _ _ ((RowE (α := Typ) (shr dQ ax) 33 (Iy s 1 1) [(⟨[(⟨2, 2, false, []⟩ : Fld)]⟩ : Typ)]) :: _) _ := Sep.blkRow (src := (shr dQ ax)) (l := [(⟨[(⟨2, 2, false, []⟩ : Fld)]⟩ : Typ)]) (css := [(⟨[(⟨2, 2, false, []⟩ : Fld)]⟩ : Typ).cells (Iy t 1 1)]) (gn.mv1) rfl ⟨fun _ _ => ⟨_, rfl, aL, (show Typ.Ok (⟨[(⟨2, 2, false, []⟩ : Fld)]⟩ : Typ) from ⟨⟩)⟩, trivial⟩ yqa
 have gp := cM.r0
 have hr279s : _ * 24 ≤ _ := gp.2
 obtain ⟨dS, gq, ad, gr, gs⟩ := cM.lend
 have aM := RowE.rdB gq ad
 have hrd286s : _ * 24 ≤ _ := aM.small
 have cN : Sep _ _ ((RowE (α := Ev) (shr dS ax) 59 (Iy F 3 3) [evA, evB, evC]) :: _) _ := Sep.blkRow (src := (shr dS ax)) (l := [evA, evB, evC]) (css := [evA.cells (Iy b2 2 2), evB.cells (Iy z 2 2), evC.cells (Iy A 2 2)]) gr rfl ⟨fun _ _ => ⟨_, rfl, (RdS.base (RdS.base am ac) ad), cC⟩, fun _ _ => ⟨_, rfl, (RdS.base (RdS.base (RdS.base aw ai) ac) ad), cD⟩, fun _ _ => ⟨_, rfl, (RdS.base (RdS.base (RdS.base (RdS.base au av) ai) ac) ad), cE⟩, trivial⟩ yqa
 have gt := cN.r0
 have hr288s : _ * 96 ≤ _ := gt.2
 obtain ⟨G289, gu, ay, gv, gw⟩ := cN.lend
 have aN := RowE.rdB gu ay
 have hrd295s : _ * 96 ≤ _ := aN.small
 refine (zV (f := 38) (vals := [.agg ((zS 2).cells (Iy s 1 1) (Iz)).toArray, (Iy F 3 3)]) (cap := []) rfl (yH ⟨O, U, trivial⟩) nY (YH (d := (zS 2)) (l := [evA, evB, evC]) (vl := (Iy F 3 3)) (RdS.base aM ay) (RdS.nil _ _) (show Dcl.Ok (zS 2) from ⟨⟩) aN (RdS.base (RdS.base (RdS.base (RdS.base (RdS.base (RdS.base hKN dP) av) ai) ac) ad) ay) gv ((ZQ _)) (dc)) ?_)
 rintro _ w297 ⟨y, rfl, gx⟩
 have gy := gw _ _ gx
 have gz := gs _ _ gy
 have gA := go _ _ gz
 exact fun m B L => ⟨(Exists.intro s (Exists.intro t (Exists.intro F (Exists.intro y (And.intro ((L 0 dc).trans O) (And.intro ((L 4 dc).trans U) (And.intro B (gA.s7_adefg)))))))), trivial⟩
 intro iK vals w304 gB gC hA305
 have aO : iK ∈ [7] := gB
 simp only [List.mem_cons, List.not_mem_nil, or_false] at aO
 subst aO
 obtain ⟨s, t, F, y, O, U, aj, hS308⟩ := gC
 refine obl rfl (ym (v := Ix y 0) aj (fun m B L => ⟨rfl, ?_⟩))
 intro b189q ab
 rw [L 5 (by decide)] at ab; cases aj.symm.trans ab
 exact B
 intro vals w309 gD gE
 obtain ⟨s, t, F, y, O, U, aj, gF⟩ := gD
 have iL : vals 6 = (Ix y 0 : Value) := gE 6 dc y aj
 refine zZ (kv := [(0, .bool false), (12, (Iy b2 2 2)), (13, .agg jc.toArray), (1, Ix R 0), (14, (Iy z 2 2)), (15, .agg fD.toArray), (2, Ix S 0), (16, (Iy A 2 2)), (17, .agg bo.toArray), (3, Ix aa 0), (4, Ix y 0)]) ⟨rfl, rfl, rfl, rfl, rfl, rfl, rfl, rfl, rfl, rfl, (by exact iL), trivial⟩ (fun ρw309 => (zb (za ?_)))
 have cO := (gF.s5_bcde).s4_bcda
 generalize gG : ((ViewO y (zS 2) kx kx) :: Rs) = iM at cO
 refine WD6 ((fun TT T => WF [fun vals Q => Sep N M (T :: TT) Q, fun vals Q => ∃ (u : Nat) (x : Nat), (vals 0 = (.agg #[(Iy u 1 1), Iz] : Value)) ∧ Sep N M ((Blk u #[(Iy x 1 1)] 33) :: (Blk x #[Iv 2, Iv 3, .bool false, Iz] 79) :: T :: TT) Q, fun vals Q => ∃ (H : Nat), (vals 4 = ((Iy H 3 3) : Value)) ∧ Sep N M ((Blk H (evB.cells (Iy z 2 2) ++ evA.cells (Iy b2 2 2) ++ evC.cells (Iy A 2 2)).toArray 59) :: T :: TT) Q, fun vals Q => ∃ (u : Nat) (x : Nat) (H : Nat), (vals 0 = (.agg #[(Iy u 1 1), Iz] : Value)) ∧ (vals 4 = ((Iy H 3 3) : Value)) ∧ Sep N M ((Blk H (evB.cells (Iy z 2 2) ++ evA.cells (Iy b2 2 2) ++ evC.cells (Iy A 2 2)).toArray 59) :: (Blk u #[(Iy x 1 1)] 33) :: (Blk x #[Iv 2, Iv 3, .bool false, Iz] 79) :: T :: TT) Q, fun _ _ => True, fun _ _ => True, fun _ _ => True, fun vals Q => ∃ (u : Nat) (x : Nat) (H : Nat) (C : Nat), (vals 0 = (.agg #[(Iy u 1 1), Iz] : Value)) ∧ (vals 4 = ((Iy H 3 3) : Value)) ∧ (vals 5 = (Ix C 0 : Value)) ∧ Sep N M ((RowE (α := Fld) (shr N M) 79 (Iy x 1 1) [(⟨2, 3, false, []⟩ : Fld)]) :: (ViewO C (zS 3) ky ky) :: T :: TT) Q]) (jh :: jg :: iM) (Blk aa jf.toArray 59)) (AF [fun _ => True, Vl 1 (.agg je.toArray), Vl 2 (.agg jd.toArray), Vl 3 (.agg jf.toArray), fun _ => True, fun _ => True, fun vals => ∀ (C : Nat), vals 5 = (Ix C 0 : Value) → vals 6 = (Ix C 0 : Value)]) [[], [], [], [], [1, 2, 3], (rg 5), (rg 6)] [0, 4, 5] [[0, 2], [0, 1], [0, 1], [0, 1], [0, 1], [3], [7]] cO ⟨?_, ?_, ?_, ?_, ?_, ?_, ?_, trivial⟩ ?_ (hlocA := yT ⟨dT, dA, dA, dA, dT, dT, fun vals m B h => fun C ab => (B 6 (.inl rfl)).trans (h C ((B 5 (.inr dc)).symm.trans ab)), trivial⟩)
 intro iN vals w419 gH cP hA420
 have aP : iN ∈ [0, 2] := gH
 simp only [List.mem_cons, List.not_mem_nil, or_false] at aP
 rcases aP with rfl | rfl
 have gI : Sep _ _ _ _ := cP
 refine obl rfl ((cL rR (xA (p := 3) dc gI) ?_))
 rintro _ w426 ⟨u, x, rfl, gJ⟩
 exact fun m B L => ⟨(Exists.intro u (Exists.intro x (And.intro B gJ))), trivial⟩
 obtain ⟨H, X, gK⟩ := cP
 refine obl rfl ((cL rR (xA (p := 3) dc gK) ?_))
 rintro _ w431 ⟨u, x, rfl, gL⟩
 exact fun m B L => ⟨(Exists.intro u (Exists.intro x (Exists.intro H (And.intro B (And.intro ((L 4 dc).trans X) (gL.mv2)))))), trivial⟩
 intro iO vals w435 gM cQ hA436
 have aQ : iO ∈ [0, 1] := gM
 simp only [List.mem_cons, List.not_mem_nil, or_false] at aQ
 rcases aQ with rfl | rfl
 have gN : Sep _ _ _ _ := cQ
 exact obl rfl (zg (k := 10) oT mT rfl rfl (CellsAt.all (gN.b1)) dR)
 obtain ⟨u, x, P, gO⟩ := cQ
 exact obl rfl (zg (k := 10) oT mT rfl rfl (CellsAt.all (gO.b3)) dR)
 intro iP vals w442 gP cR hA443
 have aR : iP ∈ [0, 1] := gP
 simp only [List.mem_cons, List.not_mem_nil, or_false] at aR
 rcases aR with rfl | rfl
 have gQ : Sep _ _ _ _ := cR
 exact obl rfl (zg (k := 10) oT mT rfl rfl (CellsAt.all (gQ.b2)) dR)
 obtain ⟨u, x, P, gR⟩ := cR
 exact obl rfl (zg (k := 10) oT mT rfl rfl (CellsAt.all (gR.b4)) dR)
 intro iQ vals w449 gS cS hA450
 have aT : iQ ∈ [0, 1] := gS
 simp only [List.mem_cons, List.not_mem_nil, or_false] at aT
 rcases aT with rfl | rfl
 have gT : Sep _ _ _ _ := cS
 exact obl rfl (zg (k := 10) oT mT rfl rfl (CellsAt.all (gT.b0)) dR)
 obtain ⟨u, x, P, gU⟩ := cS
 exact obl rfl (zg (k := 10) oT mT rfl rfl (CellsAt.all (gU.b2)) dR)
 intro iR vals w456 gV cT Y
 have aU : iR ∈ [0, 1] := gV
 simp only [List.mem_cons, List.not_mem_nil, or_false] at aU
 rcases aU with rfl | rfl
 have gW : Sep _ _ _ _ := cT
 refine obl rfl ((zu (k := 10) (parts' := [(0, .agg je.toArray), (1, .agg jd.toArray), (2, .agg jf.toArray)]) (c := (evB.cells (Iy z 2 2) ++ evA.cells (Iy b2 2 2) ++ evC.cells (Iy A 2 2)).toArray) sT mT vT dc (xF ⟨rfl, (Y 1 dc), rfl, (Y 2 dc), rfl, (Y 3 dc), trivial⟩) kr ?_))
 intro w466 H gX
 exact fun m B L => ⟨(Exists.intro H (And.intro B (gW.new gX))), trivial⟩
 obtain ⟨u, x, P, gY⟩ := cT
 refine obl rfl ((zu (k := 10) (parts' := [(0, .agg je.toArray), (1, .agg jd.toArray), (2, .agg jf.toArray)]) (c := (evB.cells (Iy z 2 2) ++ evA.cells (Iy b2 2 2) ++ evC.cells (Iy A 2 2)).toArray) sT mT vT dc (xF ⟨rfl, (Y 1 dc), rfl, (Y 2 dc), rfl, (Y 3 dc), trivial⟩) kr ?_))
 intro w474 H gZ
 exact fun m B L => ⟨(Exists.intro u (Exists.intro x (Exists.intro H (And.intro ((L 0 dc).trans P) (And.intro B (gY.new gZ)))))), trivial⟩
 intro iS vals az ha hc hA478
 have aV : iS ∈ [3] := ha
 simp only [List.mem_cons, List.not_mem_nil, or_false] at aV
 subst aV
 obtain ⟨u, x, H, P, X, hd⟩ := hc
 refine obl rfl ?_
 have cU : Sep _ _ ((RowE (α := Fld) (shr N M) 79 (Iy x 1 1) [(⟨2, 3, false, []⟩ : Fld)]) :: _) _ := Sep.blkRow (src := (shr N M)) (l := [(⟨2, 3, false, []⟩ : Fld)]) (css := [(⟨2, 3, false, []⟩ : Fld).cells (Iz)]) (hd.mv2) rfl ⟨fun _ _ => ⟨_, rfl, (RdS.nil _ _), (show Fld.Ok (⟨2, 3, false, []⟩ : Fld) from ⟨by decide, by decide⟩)⟩, trivial⟩ yqa
 have he := cU.r0
 have hr484s : _ * 48 ≤ _ := he.2
 obtain ⟨dU, hf, ae, hg, hh⟩ := cU.lend
 have aW := RowE.rdB hf ae
 have hrd491s : _ * 48 ≤ _ := aW.small
 have cV : Sep _ _ ((RowE (α := Typ) (shr dU az) 33 (Iy u 1 1) [(⟨[(⟨2, 3, false, []⟩ : Fld)]⟩ : Typ)]) :: _) _ := Sep.blkRow (src := (shr dU az)) (l := [(⟨[(⟨2, 3, false, []⟩ : Fld)]⟩ : Typ)]) (css := [(⟨[(⟨2, 3, false, []⟩ : Fld)]⟩ : Typ).cells (Iy x 1 1)]) (hg.mv1) rfl ⟨fun _ _ => ⟨_, rfl, aW, (show Typ.Ok (⟨[(⟨2, 3, false, []⟩ : Fld)]⟩ : Typ) from ⟨⟩)⟩, trivial⟩ yqa
 have hi := cV.r0
 have hr494s : _ * 24 ≤ _ := hi.2
 obtain ⟨dV, hj, af, hk, hl⟩ := cV.lend
 have aX := RowE.rdB hj af
 have hrd501s : _ * 24 ≤ _ := aX.small
 have cW : Sep _ _ ((RowE (α := Ev) (shr dV az) 59 (Iy H 3 3) [evB, evA, evC]) :: _) _ := Sep.blkRow (src := (shr dV az)) (l := [evB, evA, evC]) (css := [evB.cells (Iy z 2 2), evA.cells (Iy b2 2 2), evC.cells (Iy A 2 2)]) hk rfl ⟨fun _ _ => ⟨_, rfl, (RdS.base (RdS.base (RdS.base aw ai) ae) af), cD⟩, fun _ _ => ⟨_, rfl, (RdS.base (RdS.base am ae) af), cC⟩, fun _ _ => ⟨_, rfl, (RdS.base (RdS.base (RdS.base (RdS.base au av) ai) ae) af), cE⟩, trivial⟩ yqa
 have hm := cW.r0
 have hr503s : _ * 96 ≤ _ := hm.2
 obtain ⟨G504, hn, aA, ho, hp⟩ := cW.lend
 have aY := RowE.rdB hn aA
 have hrd510s : _ * 96 ≤ _ := aY.small
 refine (zV (f := 38) (vals := [.agg ((zS 3).cells (Iy u 1 1) (Iz)).toArray, (Iy H 3 3)]) (cap := []) rfl (yH ⟨P, X, trivial⟩) nY (YH (d := (zS 3)) (l := [evB, evA, evC]) (vl := (Iy H 3 3)) (RdS.base aX aA) (RdS.nil _ _) (show Dcl.Ok (zS 3) from ⟨⟩) aY (RdS.base (RdS.base (RdS.base (RdS.base (RdS.base (RdS.base hKN dP) av) ai) ae) af) aA) ho ((ZQ _)) (dc)) ?_)
 rintro _ w512 ⟨C, rfl, hq⟩
 have hr := hp _ _ hq
 have hs := hl _ _ hr
 have ht := hh _ _ hs
 exact fun m B L => ⟨(Exists.intro u (Exists.intro x (Exists.intro H (Exists.intro C (And.intro ((L 0 dc).trans P) (And.intro ((L 4 dc).trans X) (And.intro B (ht.s7_adefg)))))))), trivial⟩
 intro iT vals w519 hu hw hA520
 have aZ : iT ∈ [7] := hu
 simp only [List.mem_cons, List.not_mem_nil, or_false] at aZ
 subst aZ
 obtain ⟨u, x, H, C, P, X, ak, hS523⟩ := hw
 refine obl rfl (ym (v := Ix C 0) ak (fun m B L => ⟨rfl, ?_⟩))
 intro b404q ab
 rw [L 5 (by decide)] at ab; cases ak.symm.trans ab
 exact B
 intro vals iU hx hy
 obtain ⟨u, x, H, C, P, X, ak, cX⟩ := hx
 have iV : vals 6 = (Ix C 0 : Value) := hy 6 dc C ak
 refine zZ (kv := [(0, .bool false), (12, (Iy b2 2 2)), (13, .agg jc.toArray), (1, Ix R 0), (14, (Iy z 2 2)), (15, .agg fD.toArray), (2, Ix S 0), (16, (Iy A 2 2)), (17, .agg bo.toArray), (3, Ix aa 0), (4, Ix y 0), (5, Ix C 0)]) ⟨rfl, rfl, rfl, rfl, rfl, rfl, rfl, rfl, rfl, rfl, rfl, (by exact iV), trivial⟩ (fun ρw524 => (zb (za (za ?_))))
 rw [← gG] at cX
 have cY := (cX.s6_bcdef).s5_aebcd
 generalize hz : ((Blk aa (evC.cells (Iy A 2 2)).toArray 59) :: (Blk S (evB.cells (Iy z 2 2)).toArray 59) :: (Blk R (evA.cells (Iy b2 2 2)).toArray 59) :: Rs) = iW at cY
 have hA : Sep N M ((ViewO C (zS 3) ky ky) :: (ViewO y (zS 2) kx kx) :: iW) iU := cY
 refine zw kr (st (mV (Ix y 0) (st (xc (b := y) (o := 0) oY rfl (st (mV (.bool false) (sty rfl rfl (mV (Ix C 0) (sty rfl rfl (xc (b := C) (o := 0) oY rfl (st (zO (v := .bool false) rfl rfl (zb (zi rfl (zk (za (R0 fun _ => st (mV (Ix y 0) (st (cL pY (yW  (hA.mv1)) ?_))))))))))))))))))))
 rintro g w536 ⟨_, rfl, cZ⟩
 have da := cZ.r1
 have hr538s : _ * 120 ≤ _ := da.2
 refine st (aS g (zb (za (R0 fun _ => st (mV (Ix C 0) (st (cL pY (yW  (cZ.mv2)) ?_)))))))
 rintro q w541 ⟨_, rfl, db⟩
 have dd := db.r1
 have hr543s : _ * 120 ≤ _ := dd.2
 refine st (aS q (zb (za (R0 fun _ => st (mV (Ix y 0) (st (cL qY (xw (ty := 0) (no := 0) dc dc (db.mv2)) ?_)))))))
 rintro _ w546 ⟨J, rfl, de⟩
 let hv := (ye (zS 2) (0, 0) kx).cells J
 have aB := de.r1
 have hr548s : _ * 32 ≤ _ := aB.2
 refine st (mV (.tuple #[.agg hv.toArray, .bool ((zh (zS 2) kx (0, 0)).isSome)]) (st (zt (vs := [.agg hv.toArray, .bool ((zh (zS 2) kx (0, 0)).isSome)]) (i := 0) (v := .agg hv.toArray) rfl rfl (st (zt (vs := [.agg hv.toArray, .bool ((zh (zS 2) kx (0, 0)).isSome)]) (i := 1) (v := .bool ((zh (zS 2) kx (0, 0)).isSome)) rfl rfl (st (zr rY ?_)))))))
 intro w551 an hB
 have df := de.new hB
 refine stn (zp (v := .agg hv.toArray) (c' := hv.toArray) sY rfl rfl (df.b0) (zW ⟨rfl, aB.1.one, trivial⟩) yqc rfl ?_)
 intro w553 hC
 refine st (aS (.bool ((zh (zS 2) kx (0, 0)).isSome)) (zb (za (R0 fun _ => st (mV (Ix C 0) (st (cL qY (xw (ty := 0) (no := 0) dc dc ((df.pt0 hC).mv3)) ?_)))))))
 rintro _ w558 ⟨K, rfl, dg⟩
 let jb := (ye (zS 3) (0, 0) ky).cells K
 have aC := dg.r1
 have hr560s : _ * 32 ≤ _ := aC.2
 refine st (mV (.tuple #[.agg jb.toArray, .bool ((zh (zS 3) ky (0, 0)).isSome)]) (st (zt (vs := [.agg jb.toArray, .bool ((zh (zS 3) ky (0, 0)).isSome)]) (i := 0) (v := .agg jb.toArray) rfl rfl (st (zt (vs := [.agg jb.toArray, .bool ((zh (zS 3) ky (0, 0)).isSome)]) (i := 1) (v := .bool ((zh (zS 3) ky (0, 0)).isSome)) rfl rfl (st (zr rY ?_)))))))
 intro w563 aD hD
 have dh := dg.new hD
 refine stn (zp (v := .agg jb.toArray) (c' := jb.toArray) sY rfl rfl (dh.b0) (zW ⟨rfl, aC.1.one, trivial⟩) yqc rfl ?_)
 intro iX hE
 have al := dh.pt0 hE
 refine st (aS (.bool ((zh (zS 3) ky (0, 0)).isSome)) (zb (za (za (zw kr (st (mV g (st (zA (n := kx.length) nT rfl da.1 (st (yh (k := .i64) (a := ((kx.length : Nat) : Int)) (b := 3) rfl rfl ?_)))))))))))
 have dW : (!decide (((kx.length : Nat) : Int) = 3)) = false := yqi
 rw [dW]
 refine st (mV (.bool false) (sty rfl rfl (mV q (sty rfl rfl (zA (n := ky.length) nT rfl dd.1 (sty rfl rfl (yh (k := .i64) (a := ((ky.length : Nat) : Int)) (b := 3) rfl rfl ?_)))))))
 have dX : (!decide (((ky.length : Nat) : Int) = 3)) = false := yqi
 rw [dX]
 refine st (zO (v := .bool false) rfl rfl (st (mV (.bool false) (sty rfl rfl (mV (.bool ((zh (zS 2) kx (0, 0)).isSome)) (sty rfl rfl (yc (a := (zh (zS 2) kx (0, 0)).isSome) rfl ?_)))))))
 have dY : (!((zh (zS 2) kx (0, 0)).isSome)) = false := yqi
 rw [dY]
 refine st (zO (v := .bool false) rfl rfl (st (mV (.bool false) (sty rfl rfl (mV (.bool ((zh (zS 3) ky (0, 0)).isSome)) (sty rfl rfl (yc (a := (zh (zS 3) ky (0, 0)).isSome) rfl ?_)))))))
 have dZ : (!((zh (zS 3) ky (0, 0)).isSome)) = false := yqi
 rw [dZ]
 refine st (zO (v := .bool false) rfl rfl (st (mV (.bool false) (sty rfl rfl (yw rfl (sty rfl rfl (lD J qT rfl (zd (al.b3) rfl) (sty rfl rfl (zA (n := (stL (zS 2) (0, 0) kx).length) rT rfl aB.1 (sty rfl rfl (yh (k := .i64) (a := (((stL (zS 2) (0, 0) kx).length : Nat) : Int)) (b := 1) rfl rfl ?_)))))))))))
 have ea : (!decide ((((stL (zS 2) (0, 0) kx).length : Nat) : Int) = 1)) = false := yqi
 rw [ea]
 refine st (zO (v := .bool false) rfl rfl (st (mV (.bool false) (sty rfl rfl (yw rfl (sty rfl rfl (lD K qT rfl (zd (al.b0) rfl) (sty rfl rfl (zA (n := (stL (zS 3) (0, 0) ky).length) rT rfl aC.1 (sty rfl rfl (yh (k := .i64) (a := (((stL (zS 3) (0, 0) ky).length : Nat) : Int)) (b := 1) rfl rfl ?_)))))))))))
 have eb : (!decide ((((stL (zS 3) (0, 0) ky).length : Nat) : Int) = 1)) = false := yqi
 rw [eb]
 refine st (zO (v := .bool false) rfl rfl (zb (zi rfl (zk (za ?_)))))
 rw [← hz] at al
 obtain ⟨G575, hF, hB578, hG, hH⟩ := (al.mv2).lend
 have ag := RowE.rd hF
 have hrd581s : _ * 32 ≤ _ := ag.small
 obtain ⟨G583, hI, aE, hJ, hK⟩ := (hG.mv4).lend
 have ah := RowE.rd hI
 have hrd589s : _ * 32 ≤ _ := ah.small
 obtain ⟨G591, hL, Z, hM, hN⟩ := (hJ.mv4).lend
 have I := RowE.rd hL
 have hrd597s : _ * 120 ≤ _ := I.small
 obtain ⟨iY, hO, E, hP, hQ⟩ := (hM.mv4).lend
 have D := RowE.rd hO
 have hrd605s : _ * 120 ≤ _ := D.small
 refine WD4 (WF [fun vals Q => Sep iY iX ((Blk aD jb.toArray 68) :: (ViewO C (zS 3) ky ky) :: (Blk an hv.toArray 68) :: (ViewO y (zS 2) kx kx) :: (Blk aa jf.toArray 59) :: jh :: jg :: Rs) Q]) (AF [Vl 0 (g), Vl 1 (Ix (sb g) (so g + 0 * 13)), Vl 2 (Ix (sb g) (so g + 0 * 13 + 10)), Vl 3 (.bool ((kx.getD 0 default).void)), Vl 4 (.bool true), Vl 5 (.bool true), Vl 6 (g), Vl 7 (Ix (sb g) (so g + 1 * 13)), Vl 8 (Ix (sb g) (so g + 1 * 13 + 10)), Vl 9 (.bool true), Vl 10 (.bool true), Vl 11 (.bool true), Vl 12 (g), Vl 13 (Ix (sb g) (so g + 1 * 13)), Vl 14 (Ix (sb g) (so g + 1 * 13 + 11)), Vl 15 (.agg #[Iv ((kx.getD 1 default).byO), Iv ((kx.getD 1 default).byS)]), Vl 16 (Ix R 0), Vl 17 (.agg #[Iv (evA.origin), Iv (evA.seq)]), Vl 18 (.bool true), Vl 19 (.bool true), Vl 20 (.bool true), Vl 21 (g), Vl 22 (Ix (sb g) (so g + 2 * 13)), Vl 23 (Ix (sb g) (so g + 2 * 13 + 10)), Vl 24 (.bool true), Vl 25 (.bool true), Vl 26 (.bool true), Vl 27 (g), Vl 28 (Ix (sb g) (so g + 2 * 13)), Vl 29 (Ix (sb g) (so g + 2 * 13 + 11)), Vl 30 (.agg #[Iv ((kx.getD 2 default).byO), Iv ((kx.getD 2 default).byS)]), Vl 31 (Ix R 0), Vl 32 (.agg #[Iv (evA.origin), Iv (evA.seq)]), Vl 33 (.bool true), Vl 34 (.bool true), Vl 35 (.bool true), Vl 36 (Ix an 1), Vl 37 (J), Vl 38 (Ix (sb J) (so J + 0 * 2)), Vl 39 (Ix (sb J) (so J + 0 * 2)), Vl 40 (Iv (((stL (zS 2) (0, 0) kx).getD 0 default).n)), Vl 41 (.bool true), Vl 42 (.bool true), Vl 43 (.bool true), Vl 44 (Ix an 0), Vl 45 (Iv ((ye (zS 2) (0, 0) kx).ver)), Vl 46 (.bool true), Vl 47 (.bool true), Vl 48 (.bool true), Vl 49 (q), Vl 50 (Ix (sb q) (so q + 0 * 13)), Vl 51 (Ix (sb q) (so q + 0 * 13 + 10)), Vl 52 (.bool ((ky.getD 0 default).void)), Vl 53 (.bool true), Vl 54 (.bool true), Vl 55 (.bool true), Vl 56 (q), Vl 57 (Ix (sb q) (so q + 1 * 13)), Vl 58 (Ix (sb q) (so q + 1 * 13 + 10)), Vl 59 (.bool true), Vl 60 (.bool true), Vl 61 (.bool true), Vl 62 (q), Vl 63 (Ix (sb q) (so q + 1 * 13)), Vl 64 (Ix (sb q) (so q + 1 * 13 + 11)), Vl 65 (.agg #[Iv ((ky.getD 1 default).byO), Iv ((ky.getD 1 default).byS)]), Vl 66 (Ix S 0), Vl 67 (.agg #[Iv (evB.origin), Iv (evB.seq)]), Vl 68 (.bool true), Vl 69 (.bool true), Vl 70 (.bool true), Vl 71 (q), Vl 72 (Ix (sb q) (so q + 2 * 13)), Vl 73 (Ix (sb q) (so q + 2 * 13 + 10)), Vl 74 (.bool ((ky.getD 2 default).void)), Vl 75 (.bool true), Vl 76 (.bool true), Vl 77 (.bool true), Vl 78 (Ix aD 1), Vl 79 (K), Vl 80 (Ix (sb K) (so K + 0 * 2)), Vl 81 (Ix (sb K) (so K + 0 * 2)), Vl 82 (Iv (((stL (zS 3) (0, 0) ky).getD 0 default).n)), Vl 83 (.bool true), Vl 84 (.bool true), Vl 85 (.bool true)]) [[], [0], [0, 1], [0, 1, 2], (rg 4), (rg 5), (rg 6), (rg 7), (rg 8), (rg 9), (rg 10), (rg 11), (rg 12), (rg 13), (rg 14), (rg 15), (rg 12), [0, 1, 2, 3, 4, 5, 6, 7, 8, 9, 10, 11, 16], (rg 18), (rg 19), (rg 20), (rg 21), (rg 22), (rg 23), (rg 24), (rg 25), (rg 26), (rg 27), (rg 28), (rg 29), (rg 30), (rg 27), [0, 1, 2, 3, 4, 5, 6, 7, 8, 9, 10, 11, 12, 13, 14, 15, 16, 17, 18, 19, 20, 21, 22, 23, 24, 25, 26, 31], (rg 33), (rg 34), (rg 35), (rg 36), (rg 37), (rg 38), (rg 39), (rg 40), (rg 41), (rg 42), (rg 43), (rg 44), (rg 45), (rg 46), (rg 47), (rg 48), (rg 49), (rg 50), (rg 51), (rg 52), (rg 53), (rg 54), (rg 55), (rg 56), (rg 57), (rg 58), (rg 59), (rg 60), (rg 61), (rg 62), (rg 63), (rg 64), (rg 65), (rg 62), [0, 1, 2, 3, 4, 5, 6, 7, 8, 9, 10, 11, 12, 13, 14, 15, 16, 17, 18, 19, 20, 21, 22, 23, 24, 25, 26, 27, 28, 29, 30, 31, 32, 33, 34, 35, 36, 37, 38, 39, 40, 41, 42, 43, 44, 45, 46, 47, 48, 49, 50, 51, 52, 53, 54, 55, 56, 57, 58, 59, 60, 61, 66], (rg 68), (rg 69), (rg 70), (rg 71), (rg 72), (rg 73), (rg 74), (rg 75), (rg 76), (rg 77), (rg 78), (rg 79), (rg 80), (rg 81), (rg 82), (rg 83), (rg 84), (rg 85)] [] [(0, 0), (0, 0), (0, 0), (0, 0), (0, 0), (0, 0), (0, 0), (0, 0), (0, 0), (0, 0), (0, 0), (0, 0), (0, 0), (0, 0), (0, 0), (0, 0), (0, 0), (0, 0), (0, 0), (0, 0), (0, 0), (0, 0), (0, 0), (0, 0), (0, 0), (0, 0), (0, 0), (0, 0), (0, 0), (0, 0), (0, 0), (0, 0), (0, 0), (0, 0), (0, 0), (0, 0), (0, 0), (0, 0), (0, 0), (0, 0), (0, 0), (0, 0), (0, 0), (0, 0), (0, 0), (0, 0), (0, 0), (0, 0), (0, 0), (0, 0), (0, 0), (0, 0), (0, 0), (0, 0), (0, 0), (0, 0), (0, 0), (0, 0), (0, 0), (0, 0), (0, 0), (0, 0), (0, 0), (0, 0), (0, 0), (0, 0), (0, 0), (0, 0), (0, 0), (0, 0), (0, 0), (0, 0), (0, 0), (0, 0), (0, 0), (0, 0), (0, 0), (0, 0), (0, 0), (0, 0), (0, 0), (0, 0), (0, 0), (0, 0), (0, 0), (0, 0)] hP ⟨fun _ _ _ _ _ _ _ => obl rfl (mV g dR), ?_, fun _ _ _ _ _ _ ec => obl rfl (xa (ec 1 dc) dR), ?_, ?_, fun _ _ _ _ _ _ ed => obl rfl (zP (v := .bool true) (ed 4 dc) dR), ?_, ?_, ?_, ?_, fun _ _ _ _ _ _ ba => obl rfl (zN (v := .bool true) (ba 5 dc) (ba 9 dc) dR), fun _ _ _ _ _ _ ee => obl rfl (zP (v := .bool true) (ee 10 dc) dR), ?_, ?_, ?_, ?_, ?_, ?_, ?_, fun _ _ _ _ _ _ bb => obl rfl (zN (v := .bool true) (bb 11 dc) (bb 18 dc) dR), fun _ _ _ _ _ _ ef => obl rfl (zP (v := .bool true) (ef 19 dc) dR), ?_, ?_, ?_, ?_, fun _ _ _ _ _ _ bc => obl rfl (zN (v := .bool true) (bc 20 dc) (bc 24 dc) dR), fun _ _ _ _ _ _ eg => obl rfl (zP (v := .bool true) (eg 25 dc) dR), ?_, ?_, ?_, ?_, ?_, ?_, ?_, fun _ _ _ _ _ _ bd => obl rfl (zN (v := .bool true) (bd 26 dc) (bd 33 dc) dR), fun _ _ _ _ _ _ eh => obl rfl (zP (v := .bool true) (eh 34 dc) dR), ?_, ?_, ?_, ?_, ?_, ?_, fun _ _ _ _ _ _ be => obl rfl (zN (v := .bool true) (be 35 dc) (be 41 dc) dR), fun _ _ _ _ _ _ ei => obl rfl (zP (v := .bool true) (ei 42 dc) dR), ?_, ?_, ?_, fun _ _ _ _ _ _ bf => obl rfl (zN (v := .bool true) (bf 43 dc) (bf 46 dc) dR), fun _ _ _ _ _ _ ej => obl rfl (zP (v := .bool true) (ej 47 dc) dR), ?_, ?_, ?_, ?_, ?_, fun _ _ _ _ _ _ bg => obl rfl (zN (v := .bool true) (bg 48 dc) (bg 53 dc) dR), fun _ _ _ _ _ _ ek => obl rfl (zP (v := .bool true) (ek 54 dc) dR), ?_, ?_, ?_, ?_, fun _ _ _ _ _ _ bh => obl rfl (zN (v := .bool true) (bh 55 dc) (bh 59 dc) dR), fun _ _ _ _ _ _ el => obl rfl (zP (v := .bool true) (el 60 dc) dR), ?_, ?_, ?_, ?_, ?_, ?_, ?_, fun _ _ _ _ _ _ bi => obl rfl (zN (v := .bool true) (bi 61 dc) (bi 68 dc) dR), fun _ _ _ _ _ _ em => obl rfl (zP (v := .bool true) (em 69 dc) dR), ?_, ?_, ?_, ?_, ?_, fun _ _ _ _ _ _ bj => obl rfl (zN (v := .bool true) (bj 70 dc) (bj 75 dc) dR), fun _ _ _ _ _ _ en => obl rfl (zP (v := .bool true) (en 76 dc) dR), ?_, ?_, ?_, ?_, ?_, ?_, fun _ _ _ _ _ _ bk => obl rfl (zN (v := .bool true) (bk 77 dc) (bk 83 dc) dR), fun _ _ _ _ _ _ eo => obl rfl (ym (v := .bool true) (eo 84 dc) dR), trivial⟩ ?_
 refine ob1 0 fun _ _ _ er => (obl rfl ?_)
 have es : 0 < kx.length := yqh
 exact ze (k := 13) (i := 0) nT pT (er 0 dc) D.sl rfl es dR
 refine ob1 0 fun _ _ (et : Sep _ _ _ _) eu => (obl rfl ?_)
 have bl : 0 < kx.length := yqh
 obtain ⟨di, bm, hoke1396⟩ := D.entD bl
 have hsm1398 : ((kx.getD 0 default).ev.deps).length * 8 ≤ 140737488355328 := bm.small
 have dj := et.cells di (D.foot (ne_of_lt bl))
 exact lD (.bool ((kx.getD 0 default).void)) lR (eu 2 dc) (dj.get (j := 10) rfl) dR
 refine fun _ _ _ _ _ _ ew => (obl rfl ?_)
 have ex : (!((kx.getD 0 default).void)) = true := by decide +kernel
 exact yc (a := (kx.getD 0 default).void) (ew 3 dc) (fun m B _ => ⟨rfl, B.trans (congrArg Value.bool ex)⟩)
 refine fun _ _ _ _ _ _ ey => (zC rfl rfl (ey 5 dc) (fun _ => ?_) yqe)
 exact mV g dR
 refine ob1 0 fun _ _ _ bn => (zC rfl rfl (bn 5 dc) (fun _ => ?_) yqe)
 have ez : 1 < kx.length := yqh
 exact ze (k := 13) (i := 1) nT pT (bn 6 dc) D.sl rfl ez dR
 refine fun _ _ _ _ _ _ bp => (zC rfl rfl (bp 5 dc) (fun _ => ?_) yqe)
 exact xa (bp 7 dc) dR
 refine ob1 0 fun _ _ (eA : Sep _ _ _ _) bq => (zC rfl rfl (bq 5 dc) (fun _ => ?_) yqe)
 have br : 1 < kx.length := yqh
 obtain ⟨dk, bs, hoke1449⟩ := D.entD br
 have hsm1451 : ((kx.getD 1 default).ev.deps).length * 8 ≤ 140737488355328 := bs.small
 have dl := eA.cells dk (D.foot (ne_of_lt br))
 have eB : ((kx.getD 1 default).void) = true := by decide +kernel
 exact lD (.bool ((kx.getD 1 default).void)) lR (bq 8 dc) (dl.get (j := 10) rfl) (fun m B _ => ⟨rfl, B.trans (congrArg Value.bool eB)⟩)
 refine fun _ _ _ _ _ _ eC => (zC rfl rfl (eC 11 dc) (fun _ => ?_) yqe)
 exact mV g dR
 refine ob1 0 fun _ _ _ bt => (zC rfl rfl (bt 11 dc) (fun _ => ?_) yqe)
 have eD : 1 < kx.length := yqh
 exact ze (k := 13) (i := 1) nT pT (bt 12 dc) D.sl rfl eD dR
 refine fun _ _ _ _ _ _ bu => (zC rfl rfl (bu 11 dc) (fun _ => ?_) yqe)
 exact Zk (bu 13 dc) dR
 refine ob1 0 fun _ _ (eE : Sep _ _ _ _) bv => (zC rfl rfl (bv 11 dc) (fun _ => ?_) yqe)
 have bw : 1 < kx.length := yqh
 obtain ⟨dm, bx, hoke1503⟩ := D.entD bw
 have hsm1505 : ((kx.getD 1 default).ev.deps).length * 8 ≤ 140737488355328 := bx.small
 have dq := eE.cells dm (D.foot (ne_of_lt bw))
 exact zg (k := 2) (cs := [Iv ((kx.getD 1 default).byO), Iv ((kx.getD 1 default).byS)]) tT uT rfl (bv 14 dc) (CellsAt.sub dq 11 (cs2 := [Iv ((kx.getD 1 default).byO), Iv ((kx.getD 1 default).byS)]) rfl) dR
 refine fun _ _ _ _ _ _ eF => (zC rfl rfl (eF 11 dc) (fun _ => ?_) yqe)
 exact yP rfl dR
 refine ob1 0 fun _ _ (eG : Sep _ _ _ _) bz => (zC rfl rfl (bz 11 dc) (fun _ => ?_) yqe)
 exact zg (k := 2) (cs := [Iv (evA.origin), Iv (evA.seq)]) tT uT rfl (bz 16 dc) (CellsAt.sub (CellsAt.all (eG.b6)) 0 (cs2 := [Iv (evA.origin), Iv (evA.seq)]) rfl) dR
 refine ob1 0 fun _ _ _ ao => (zC rfl rfl (ao 11 dc) (fun _ => ?_) yqe)
 have eH : (decide ((kx.getD 1 default).byO = evA.origin ∧ (kx.getD 1 default).byS = evA.seq)) = true := by decide +kernel
 exact xH (e := decide ((kx.getD 1 default).byO = evA.origin ∧ (kx.getD 1 default).byS = evA.seq)) (xs := #[Iv ((kx.getD 1 default).byO), Iv ((kx.getD 1 default).byS)]) (ys := #[Iv (evA.origin), Iv (evA.seq)]) Wa (ao 15 dc) (ao 17 dc) (fun m B _ => ⟨rfl, B.trans (congrArg Value.bool eH)⟩)
 refine fun _ _ _ _ _ _ eI => (zC rfl rfl (eI 20 dc) (fun _ => ?_) yqe)
 exact mV g dR
 refine ob1 0 fun _ _ _ bA => (zC rfl rfl (bA 20 dc) (fun _ => ?_) yqe)
 have eJ : 2 < kx.length := yqh
 exact ze (k := 13) (i := 2) nT pT (bA 21 dc) D.sl rfl eJ dR
 refine fun _ _ _ _ _ _ bB => (zC rfl rfl (bB 20 dc) (fun _ => ?_) yqe)
 exact xa (bB 22 dc) dR
 refine ob1 0 fun _ _ (eK : Sep _ _ _ _) bC => (zC rfl rfl (bC 20 dc) (fun _ => ?_) yqe)
 have bD : 2 < kx.length := yqh
 obtain ⟨dr, bE, hoke1583⟩ := D.entD bD
 have hsm1585 : ((kx.getD 2 default).ev.deps).length * 8 ≤ 140737488355328 := bE.small
 have ds := eK.cells dr (D.foot (ne_of_lt bD))
 have eL : ((kx.getD 2 default).void) = true := by decide +kernel
 exact lD (.bool ((kx.getD 2 default).void)) lR (bC 23 dc) (ds.get (j := 10) rfl) (fun m B _ => ⟨rfl, B.trans (congrArg Value.bool eL)⟩)
 refine fun _ _ _ _ _ _ eM => (zC rfl rfl (eM 26 dc) (fun _ => ?_) yqe)
 exact mV g dR
 refine ob1 0 fun _ _ _ bF => (zC rfl rfl (bF 26 dc) (fun _ => ?_) yqe)
 have eN : 2 < kx.length := yqh
 exact ze (k := 13) (i := 2) nT pT (bF 27 dc) D.sl rfl eN dR
 refine fun _ _ _ _ _ _ bG => (zC rfl rfl (bG 26 dc) (fun _ => ?_) yqe)
 exact Zk (bG 28 dc) dR
 refine ob1 0 fun _ _ (eO : Sep _ _ _ _) bH => (zC rfl rfl (bH 26 dc) (fun _ => ?_) yqe)
 have bI : 2 < kx.length := yqh
 obtain ⟨dt, bJ, hoke1637⟩ := D.entD bI
 have hsm1639 : ((kx.getD 2 default).ev.deps).length * 8 ≤ 140737488355328 := bJ.small
 have du := eO.cells dt (D.foot (ne_of_lt bI))
 exact zg (k := 2) (cs := [Iv ((kx.getD 2 default).byO), Iv ((kx.getD 2 default).byS)]) tT uT rfl (bH 29 dc) (CellsAt.sub du 11 (cs2 := [Iv ((kx.getD 2 default).byO), Iv ((kx.getD 2 default).byS)]) rfl) dR
 refine fun _ _ _ _ _ _ eP => (zC rfl rfl (eP 26 dc) (fun _ => ?_) yqe)
 exact yP rfl dR
 refine ob1 0 fun _ _ (eQ : Sep _ _ _ _) bK => (zC rfl rfl (bK 26 dc) (fun _ => ?_) yqe)
 exact zg (k := 2) (cs := [Iv (evA.origin), Iv (evA.seq)]) tT uT rfl (bK 31 dc) (CellsAt.sub (CellsAt.all (eQ.b6)) 0 (cs2 := [Iv (evA.origin), Iv (evA.seq)]) rfl) dR
 refine ob1 0 fun _ _ _ ap => (zC rfl rfl (ap 26 dc) (fun _ => ?_) yqe)
 have eR : (decide ((kx.getD 2 default).byO = evA.origin ∧ (kx.getD 2 default).byS = evA.seq)) = true := by decide +kernel
 exact xH (e := decide ((kx.getD 2 default).byO = evA.origin ∧ (kx.getD 2 default).byS = evA.seq)) (xs := #[Iv ((kx.getD 2 default).byO), Iv ((kx.getD 2 default).byS)]) (ys := #[Iv (evA.origin), Iv (evA.seq)]) Wa (ap 30 dc) (ap 32 dc) (fun m B _ => ⟨rfl, B.trans (congrArg Value.bool eR)⟩)
 refine fun _ _ _ _ _ _ eS => (zC rfl rfl (eS 35 dc) (fun _ => ?_) yqe)
 exact yw rfl dR
 refine ob1 0 fun _ _ (eT : Sep _ _ _ _) bL => (zC rfl rfl (bL 35 dc) (fun _ => ?_) yqe)
 exact lD J qT (bL 36 dc) (zd (eT.b2) rfl) dR
 refine ob1 0 fun _ _ _ bM => (zC rfl rfl (bM 35 dc) (fun _ => ?_) yqe)
 have eU : 0 < (stL (zS 2) (0, 0) kx).length := yqh
 exact ze (k := 2) (i := 0) rT oR (bM 37 dc) (RdS.base (RdS.base ah Z) E).sl rfl eU dR
 refine fun _ _ _ _ _ _ bN => (zC rfl rfl (bN 35 dc) (fun _ => ?_) yqe)
 exact yL (bN 38 dc) dR
 refine ob1 0 fun _ _ (eV : Sep _ _ _ _) bO => (zC rfl rfl (bO 35 dc) (fun _ => ?_) yqe)
 have bP : 0 < (stL (zS 2) (0, 0) kx).length := yqh
 obtain ⟨dv, bQ, hoke1726⟩ := (RdS.base (RdS.base ah Z) E).celD bP
 have hsm1728 : (((stL (zS 2) (0, 0) kx).getD 0 default).set).length * 8 ≤ 140737488355328 := bQ.small
 have dw := eV.cells dv ((RdS.base (RdS.base ah Z) E).foot (ne_of_lt bP))
 exact lD (Iv (((stL (zS 2) (0, 0) kx).getD 0 default).n)) lT (bO 39 dc) (dw.get (j := 0) rfl) dR
 refine ob1 0 fun _ _ _ bR => (zC rfl rfl (bR 35 dc) (fun _ => ?_) yqe)
 have eW : (decide ((((stL (zS 2) (0, 0) kx).getD 0 default).n) = 1)) = true := by decide +kernel
 exact zF (k := .i64) (a := ((stL (zS 2) (0, 0) kx).getD 0 default).n) (b := 1) (bR 40 dc) rfl (fun m B _ => ⟨rfl, B.trans (congrArg Value.bool eW)⟩)
 refine fun _ _ _ _ _ _ eX => (zC rfl rfl (eX 43 dc) (fun _ => ?_) yqe)
 exact Zm rfl dR
 refine ob1 0 fun _ _ (eY : Sep _ _ _ _) bS => (zC rfl rfl (bS 43 dc) (fun _ => ?_) yqe)
 exact lD (Iv ((ye (zS 2) (0, 0) kx).ver)) lT (bS 44 dc) (zd (eY.b2) rfl) dR
 refine ob1 0 fun _ _ _ bT => (zC rfl rfl (bT 43 dc) (fun _ => ?_) yqe)
 have eZ : (decide (((ye (zS 2) (0, 0) kx).ver) = 1)) = true := by decide +kernel
 exact zF (k := .i64) (a := (ye (zS 2) (0, 0) kx).ver) (b := 1) (bT 45 dc) rfl (fun m B _ => ⟨rfl, B.trans (congrArg Value.bool eZ)⟩)
 refine fun _ _ _ _ _ _ fa => (zC rfl rfl (fa 48 dc) (fun _ => ?_) yqe)
 exact mV q dR
 refine ob1 0 fun _ _ _ bU => (zC rfl rfl (bU 48 dc) (fun _ => ?_) yqe)
 have fb : 0 < ky.length := yqh
 exact ze (k := 13) (i := 0) nT pT (bU 49 dc) (RdS.base I E).sl rfl fb dR
 refine fun _ _ _ _ _ _ bV => (zC rfl rfl (bV 48 dc) (fun _ => ?_) yqe)
 exact xa (bV 50 dc) dR
 refine ob1 0 fun _ _ (fc : Sep _ _ _ _) bW => (zC rfl rfl (bW 48 dc) (fun _ => ?_) yqe)
 have bX : 0 < ky.length := yqh
 obtain ⟨dx, bY, hoke1830⟩ := (RdS.base I E).entD bX
 have hsm1832 : ((ky.getD 0 default).ev.deps).length * 8 ≤ 140737488355328 := bY.small
 have dy := fc.cells dx ((RdS.base I E).foot (ne_of_lt bX))
 exact lD (.bool ((ky.getD 0 default).void)) lR (bW 51 dc) (dy.get (j := 10) rfl) dR
 refine fun _ _ _ _ _ _ bZ => (zC rfl rfl (bZ 48 dc) (fun _ => ?_) yqe)
 have fd : (!((ky.getD 0 default).void)) = true := by decide +kernel
 exact yc (a := (ky.getD 0 default).void) (bZ 52 dc) (fun m B _ => ⟨rfl, B.trans (congrArg Value.bool fd)⟩)
 refine fun _ _ _ _ _ _ fe => (zC rfl rfl (fe 55 dc) (fun _ => ?_) yqe)
 exact mV q dR
 refine ob1 0 fun _ _ _ ca => (zC rfl rfl (ca 55 dc) (fun _ => ?_) yqe)
 have ff : 1 < ky.length := yqh
 exact ze (k := 13) (i := 1) nT pT (ca 56 dc) (RdS.base I E).sl rfl ff dR
 refine fun _ _ _ _ _ _ cb => (zC rfl rfl (cb 55 dc) (fun _ => ?_) yqe)
 exact xa (cb 57 dc) dR
 refine ob1 0 fun _ _ (fg : Sep _ _ _ _) cc => (zC rfl rfl (cc 55 dc) (fun _ => ?_) yqe)
 have cd : 1 < ky.length := yqh
 obtain ⟨dz, ce, hoke1892⟩ := (RdS.base I E).entD cd
 have hsm1894 : ((ky.getD 1 default).ev.deps).length * 8 ≤ 140737488355328 := ce.small
 have dB := fg.cells dz ((RdS.base I E).foot (ne_of_lt cd))
 have fh : ((ky.getD 1 default).void) = true := by decide +kernel
 exact lD (.bool ((ky.getD 1 default).void)) lR (cc 58 dc) (dB.get (j := 10) rfl) (fun m B _ => ⟨rfl, B.trans (congrArg Value.bool fh)⟩)
 refine fun _ _ _ _ _ _ fi => (zC rfl rfl (fi 61 dc) (fun _ => ?_) yqe)
 exact mV q dR
 refine ob1 0 fun _ _ _ cf => (zC rfl rfl (cf 61 dc) (fun _ => ?_) yqe)
 have fj : 1 < ky.length := yqh
 exact ze (k := 13) (i := 1) nT pT (cf 62 dc) (RdS.base I E).sl rfl fj dR
 refine fun _ _ _ _ _ _ cg => (zC rfl rfl (cg 61 dc) (fun _ => ?_) yqe)
 exact Zk (cg 63 dc) dR
 refine ob1 0 fun _ _ (fk : Sep _ _ _ _) ch => (zC rfl rfl (ch 61 dc) (fun _ => ?_) yqe)
 have ci : 1 < ky.length := yqh
 obtain ⟨dC, cj, hoke1946⟩ := (RdS.base I E).entD ci
 have hsm1948 : ((ky.getD 1 default).ev.deps).length * 8 ≤ 140737488355328 := cj.small
 have dD := fk.cells dC ((RdS.base I E).foot (ne_of_lt ci))
 exact zg (k := 2) (cs := [Iv ((ky.getD 1 default).byO), Iv ((ky.getD 1 default).byS)]) tT uT rfl (ch 64 dc) (CellsAt.sub dD 11 (cs2 := [Iv ((ky.getD 1 default).byO), Iv ((ky.getD 1 default).byS)]) rfl) dR
 refine fun _ _ _ _ _ _ fl => (zC rfl rfl (fl 61 dc) (fun _ => ?_) yqe)
 exact yP rfl dR
 refine ob1 0 fun _ _ (fm : Sep _ _ _ _) ck => (zC rfl rfl (ck 61 dc) (fun _ => ?_) yqe)
 exact zg (k := 2) (cs := [Iv (evB.origin), Iv (evB.seq)]) tT uT rfl (ck 66 dc) (CellsAt.sub (CellsAt.all (fm.b5)) 0 (cs2 := [Iv (evB.origin), Iv (evB.seq)]) rfl) dR
 refine ob1 0 fun _ _ _ aq => (zC rfl rfl (aq 61 dc) (fun _ => ?_) yqe)
 have fn : (decide ((ky.getD 1 default).byO = evB.origin ∧ (ky.getD 1 default).byS = evB.seq)) = true := by decide +kernel
 exact xH (e := decide ((ky.getD 1 default).byO = evB.origin ∧ (ky.getD 1 default).byS = evB.seq)) (xs := #[Iv ((ky.getD 1 default).byO), Iv ((ky.getD 1 default).byS)]) (ys := #[Iv (evB.origin), Iv (evB.seq)]) Wa (aq 65 dc) (aq 67 dc) (fun m B _ => ⟨rfl, B.trans (congrArg Value.bool fn)⟩)
 refine fun _ _ _ _ _ _ fo => (zC rfl rfl (fo 70 dc) (fun _ => ?_) yqe)
 exact mV q dR
 refine ob1 0 fun _ _ _ cl => (zC rfl rfl (cl 70 dc) (fun _ => ?_) yqe)
 have fp : 2 < ky.length := yqh
 exact ze (k := 13) (i := 2) nT pT (cl 71 dc) (RdS.base I E).sl rfl fp dR
 refine fun _ _ _ _ _ _ cm => (zC rfl rfl (cm 70 dc) (fun _ => ?_) yqe)
 exact xa (cm 72 dc) dR
 refine ob1 0 fun _ _ (fq : Sep _ _ _ _) cn => (zC rfl rfl (cn 70 dc) (fun _ => ?_) yqe)
 have co : 2 < ky.length := yqh
 obtain ⟨dE, cp, hoke2026⟩ := (RdS.base I E).entD co
 have hsm2028 : ((ky.getD 2 default).ev.deps).length * 8 ≤ 140737488355328 := cp.small
 have dF := fq.cells dE ((RdS.base I E).foot (ne_of_lt co))
 exact lD (.bool ((ky.getD 2 default).void)) lR (cn 73 dc) (dF.get (j := 10) rfl) dR
 refine fun _ _ _ _ _ _ cq => (zC rfl rfl (cq 70 dc) (fun _ => ?_) yqe)
 have fr : (!((ky.getD 2 default).void)) = true := by decide +kernel
 exact yc (a := (ky.getD 2 default).void) (cq 74 dc) (fun m B _ => ⟨rfl, B.trans (congrArg Value.bool fr)⟩)
 refine fun _ _ _ _ _ _ fs => (zC rfl rfl (fs 77 dc) (fun _ => ?_) yqe)
 exact yw rfl dR
 refine ob1 0 fun _ _ (ft : Sep _ _ _ _) cr => (zC rfl rfl (cr 77 dc) (fun _ => ?_) yqe)
 exact lD K qT (cr 78 dc) (zd (ft.b0) rfl) dR
 refine ob1 0 fun _ _ _ ct => (zC rfl rfl (ct 77 dc) (fun _ => ?_) yqe)
 have fu : 0 < (stL (zS 3) (0, 0) ky).length := yqh
 exact ze (k := 2) (i := 0) rT oR (ct 79 dc) (RdS.base (RdS.base (RdS.base ag aE) Z) E).sl rfl fu dR
 refine fun _ _ _ _ _ _ cu => (zC rfl rfl (cu 77 dc) (fun _ => ?_) yqe)
 exact yL (cu 80 dc) dR
 refine ob1 0 fun _ _ (fv : Sep _ _ _ _) cv => (zC rfl rfl (cv 77 dc) (fun _ => ?_) yqe)
 have cw : 0 < (stL (zS 3) (0, 0) ky).length := yqh
 obtain ⟨dG, cx, hoke2097⟩ := (RdS.base (RdS.base (RdS.base ag aE) Z) E).celD cw
 have hsm2099 : (((stL (zS 3) (0, 0) ky).getD 0 default).set).length * 8 ≤ 140737488355328 := cx.small
 have dH := fv.cells dG ((RdS.base (RdS.base (RdS.base ag aE) Z) E).foot (ne_of_lt cw))
 exact lD (Iv (((stL (zS 3) (0, 0) ky).getD 0 default).n)) lT (cv 81 dc) (dH.get (j := 0) rfl) dR
 refine ob1 0 fun _ _ _ cy => (zC rfl rfl (cy 77 dc) (fun _ => ?_) yqe)
 have fw : (decide ((((stL (zS 3) (0, 0) ky).getD 0 default).n) = 3)) = true := by decide +kernel
 exact zF (k := .i64) (a := ((stL (zS 3) (0, 0) ky).getD 0 default).n) (b := 3) (cy 82 dc) rfl (fun m B _ => ⟨rfl, B.trans (congrArg Value.bool fw)⟩)
 intro vals hR fx fy
 have fz : Sep _ _ _ _ := fx
 have hS := fy 85 dc
 refine zZ (kv := [(0, .bool true), (12, (Iy b2 2 2)), (13, .agg jc.toArray), (1, Ix R 0), (14, (Iy z 2 2)), (15, .agg fD.toArray), (2, Ix S 0), (16, (Iy A 2 2)), (17, .agg bo.toArray), (3, Ix aa 0), (4, Ix y 0), (5, Ix C 0), (30, Ix y 0), (31, .bool false), (32, .bool false), (33, Ix C 0), (34, .bool false), (35, .bool false), (36, Ix y 0), (37, g), (6, g), (38, Ix C 0), (39, q), (7, q), (41, Ix y 0), (42, .tuple #[.agg hv.toArray, .bool ((zh (zS 2) kx (0, 0)).isSome)]), (40, .tuple #[.agg hv.toArray, .bool ((zh (zS 2) kx (0, 0)).isSome)]), (43, .agg hv.toArray), (44, .bool ((zh (zS 2) kx (0, 0)).isSome)), (8, Ix an 0), (9, .bool ((zh (zS 2) kx (0, 0)).isSome)), (46, Ix C 0), (47, .tuple #[.agg jb.toArray, .bool ((zh (zS 3) ky (0, 0)).isSome)]), (45, .tuple #[.agg jb.toArray, .bool ((zh (zS 3) ky (0, 0)).isSome)]), (48, .agg jb.toArray), (49, .bool ((zh (zS 3) ky (0, 0)).isSome)), (10, Ix aD 0), (11, .bool ((zh (zS 3) ky (0, 0)).isSome)), (50, g), (51, Iw kx.length), (52, .bool false), (53, .bool false), (54, q), (55, Iw ky.length), (56, .bool false), (57, .bool false), (58, .bool false), (59, .bool ((zh (zS 2) kx (0, 0)).isSome)), (60, .bool false), (61, .bool false), (62, .bool false), (63, .bool ((zh (zS 3) ky (0, 0)).isSome)), (64, .bool false), (65, .bool false), (66, .bool false), (67, Ix an 1), (68, J), (69, Iw ((stL (zS 2) (0, 0) kx).length)), (70, .bool false), (71, .bool false), (72, .bool false), (73, Ix aD 1), (74, K), (75, Iw ((stL (zS 3) (0, 0) ky).length)), (76, .bool false), (77, .bool false)]) ⟨(by exact hS), rfl, rfl, rfl, rfl, rfl, rfl, rfl, rfl, rfl, rfl, rfl, rfl, rfl, rfl, rfl, rfl, rfl, rfl, rfl, rfl, rfl, rfl, rfl, rfl, rfl, rfl, rfl, rfl, rfl, rfl, rfl, rfl, rfl, rfl, rfl, rfl, rfl, rfl, rfl, rfl, rfl, rfl, rfl, rfl, rfl, rfl, rfl, rfl, rfl, rfl, rfl, rfl, rfl, rfl, rfl, rfl, rfl, rfl, rfl, rfl, rfl, rfl, rfl, rfl, rfl, trivial⟩ (fun ρw2126 => ?_)
 refine zb (zm (zL Tryd.results21 (show _ = (.bool true : Value) from rfl) ?_))
 have fA := hQ _ _ fz
 have fB := hN _ _ fA
 have fC := hK _ _ fB
 have fE := hH _ _ fC
 have fF := fN _ _ fE
 have fG := iC _ _ fF
 have fH := iz _ _ fG
 have fI : Sep G W Rs hR := fH.sel 14 [] (Nat.le_add_left _ _) rfl rfl
 refine ⟨rfl, fI⟩

theorem Ko {a b : Ent} (h1 : a.ev = b.ev) (h2 : (a.void == b.void) = true) (h3 : a.byO = b.byO ∧ a.byS = b.byS) : a = b := by
  rw [Ent.eq_iff]; exact ⟨h1, by simpa using h2, h3.1, h3.2⟩
theorem Kh {a b : Ent} (h : (a.ev = b.ev ∧ (a.void == b.void) = true) ∧ a.byO = b.byO ∧ a.byS = b.byS) : a = b := Ko h.1.1 h.1.2 h.2
theorem xd {G : Nat → Prop} {W w : World} {Rs : List HP} {va : Value} {a : List Ent} (ha : RdS W G va a) {vb : Value} {b : List Ent} (hb : RdS W G vb b) (hS0 : Sep G W Rs w) : Ret Tryd.prog 31 [va, vb] w (fun r w' => r = (.bool (decide (a = b)) : Value) ∧ Sep G W Rs w') := by
 have has : _ * 120 ≤ _ := ha.small
 have hbs : _ * 120 ≤ _ := hb.small
 refine zl (args := [va, vb]) Tryd.func31 rfl rfl ?_
 refine za (R0 fun _ => st (aS (.bool false) (zb (za (za (R0 fun _ => st (mV va (st (zA (n := a.length) nT rfl ha.sl (st (mV vb (st (zA (n := b.length) nT rfl hb.sl (st (yh (k := .i64) (a := ((a.length : Nat) : Int)) (b := ((b.length : Nat) : Int)) rfl rfl (zb ?_))))))))))))))))
 cases V : !decide (((a.length : Nat) : Int) = ((b.length : Nat) : Int))
 have V := zB V
 refine zi rfl (zk (za (za (R0 fun _ => st (aS (Iv 0) (zb (zn (zX (fun mq σ wq => ∃ (k : Nat) (ρ : Env), mq = a.length - k ∧ σ = yb ρ [(0, va), (1, vb), (5, Iw k)] ∧ (k ≤ a.length) ∧ (∀ i, i < k → a.getD i default = b.getD i default) ∧ Sep G W Rs wq) ⟨0, _, rfl, sSf, Nat.zero_le _, (fun i h => absurd h (Nat.not_lt_zero i)), hS0⟩ ?_))))))))
 rintro m3 σ4 w2 ⟨k, ρl1, rfl, rfl, hkk, hm, bX⟩
 let cd := zy W (sb vb) (so vb + k * 13 + 3)
 let cc := zy W (sb va) (so va + k * 13 + 3)
 let ca := b.getD k default
 let bZ := a.getD k default
 let cb := (bZ.void) == (ca.void)
 let aC := decide (((a.getD k default).ev) = ((b.getD k default).ev))
 refine za (za (R0 fun _ => st (mV (Iw k) (st (mV va (st (zA (n := a.length) nT rfl ha.sl (st (zD (k := .i64) (a := ((k : Nat) : Int)) (b := ((a.length : Nat) : Int)) rfl rfl (zb ?_))))))))))
 cases ae : decide (((k : Nat) : Int) < ((a.length : Nat) : Int))
 have ae := fD ae
 refine zi rfl (zU (zI (za (R0 fun _ => st (aS (.bool true) (zb (zm (zL vR (show _ = (.bool true : Value) from rfl) ?_))))))))
 refine ⟨?_, bX⟩
 rw [decide_eq_true (XB (by omega) (fun i hi => hm i (by omega)))]
 have ae := tD ae
 refine zj rfl (zk (za (zn (za ?_))))
 refine WD4 (WF [fun vals wq => Sep G W Rs wq, fun vals wq => (vals 10 = (.bool aC : Value)) ∧ Sep G W Rs wq]) (AF [Vl 0 (va), Vl 1 (Iw k), Vl 2 (Ix (sb va) (so va + k * 13)), Vl 3 (Ix (sb va) (so va + k * 13)), Vl 4 (.agg ((bZ.ev).cells cc).toArray), Vl 5 (vb), Vl 6 (Iw k), Vl 7 (Ix (sb vb) (so vb + k * 13)), Vl 8 (Ix (sb vb) (so vb + k * 13)), Vl 9 (.agg ((ca.ev).cells cd).toArray), fun _ => True, Vl 11 (.bool (!aC)), Vl 12 (.bool (!aC)), Vl 13 (if (!aC) = false then va else undef), Vl 14 (if (!aC) = false then Iw k else undef), Vl 15 (if (!aC) = false then Ix (sb va) (so va + k * 13) else undef), Vl 16 (if (!aC) = false then Ix (sb va) (so va + k * 13 + 10) else undef), Vl 17 (if (!aC) = false then .bool (bZ.void) else undef), Vl 18 (if (!aC) = false then vb else undef), Vl 19 (if (!aC) = false then Iw k else undef), Vl 20 (if (!aC) = false then Ix (sb vb) (so vb + k * 13) else undef), Vl 21 (if (!aC) = false then Ix (sb vb) (so vb + k * 13 + 10) else undef), Vl 22 (if (!aC) = false then .bool (ca.void) else undef), Vl 23 (if (!aC) = false then .bool (!cb) else undef), Vl 24 (.bool ((!aC) || (!cb))), Vl 25 (.bool ((!aC) || (!cb))), Vl 26 (if ((!aC) || (!cb)) = false then va else undef), Vl 27 (if ((!aC) || (!cb)) = false then Iw k else undef), Vl 28 (if ((!aC) || (!cb)) = false then Ix (sb va) (so va + k * 13) else undef), Vl 29 (if ((!aC) || (!cb)) = false then Ix (sb va) (so va + k * 13 + 11) else undef), Vl 30 (if ((!aC) || (!cb)) = false then .agg #[Iv (bZ.byO), Iv (bZ.byS)] else undef), Vl 31 (if ((!aC) || (!cb)) = false then vb else undef), Vl 32 (if ((!aC) || (!cb)) = false then Iw k else undef), Vl 33 (if ((!aC) || (!cb)) = false then Ix (sb vb) (so vb + k * 13) else undef), Vl 34 (if ((!aC) || (!cb)) = false then Ix (sb vb) (so vb + k * 13 + 11) else undef), Vl 35 (if ((!aC) || (!cb)) = false then .agg #[Iv (ca.byO), Iv (ca.byS)] else undef), Vl 36 (if ((!aC) || (!cb)) = false then .bool (!decide (bZ.byO = ca.byO ∧ bZ.byS = ca.byS)) else undef), Vl 37 (.bool (((!aC) || (!cb)) || (!decide (bZ.byO = ca.byO ∧ bZ.byS = ca.byS))))]) [[], [], [0, 1], [0, 1, 2], (rg 4), [], [], [5, 6], [5, 6, 7], [5, 6, 7, 8], (rg 10), (rg 11), (rg 12), (rg 13), (rg 13), (rg 15), (rg 16), (rg 17), (rg 13), (rg 13), [0, 1, 2, 3, 4, 5, 6, 7, 8, 9, 10, 11, 12, 18, 19], [0, 1, 2, 3, 4, 5, 6, 7, 8, 9, 10, 11, 12, 18, 19, 20], [0, 1, 2, 3, 4, 5, 6, 7, 8, 9, 10, 11, 12, 18, 19, 20, 21], (rg 23), (rg 24), (rg 25), (rg 26), (rg 26), (rg 28), (rg 29), (rg 30), (rg 26), (rg 26), [0, 1, 2, 3, 4, 5, 6, 7, 8, 9, 10, 11, 12, 13, 14, 15, 16, 17, 18, 19, 20, 21, 22, 23, 24, 25, 31, 32], [0, 1, 2, 3, 4, 5, 6, 7, 8, 9, 10, 11, 12, 13, 14, 15, 16, 17, 18, 19, 20, 21, 22, 23, 24, 25, 31, 32, 33], [0, 1, 2, 3, 4, 5, 6, 7, 8, 9, 10, 11, 12, 13, 14, 15, 16, 17, 18, 19, 20, 21, 22, 23, 24, 25, 31, 32, 33, 34], (rg 36), (rg 37)] [10] [(0, 0), (0, 0), (0, 0), (0, 0), (0, 0), (0, 0), (0, 0), (0, 0), (0, 0), (0, 0), (0, 0), (1, 1), (1, 1), (1, 1), (1, 1), (1, 1), (1, 1), (1, 1), (1, 1), (1, 1), (1, 1), (1, 1), (1, 1), (1, 1), (1, 1), (1, 1), (1, 1), (1, 1), (1, 1), (1, 1), (1, 1), (1, 1), (1, 1), (1, 1), (1, 1), (1, 1), (1, 1), (1, 1)] bX ⟨fun _ _ _ _ _ _ _ => obl rfl (mV va dR), fun _ _ _ _ _ _ _ => obl rfl (mV (Iw k) dR), ?_, fun _ _ _ _ _ _ aU => obl rfl (xq (aU 2 dc) dR), ?_, fun _ _ _ _ _ _ _ => obl rfl (mV vb dR), fun _ _ _ _ _ _ _ => obl rfl (mV (Iw k) dR), ?_, fun _ _ _ _ _ _ aV => obl rfl (xq (aV 7 dc) dR), ?_, ?_, ?_, fun _ _ _ _ _ _ aW => obl rfl (zP (v := .bool (!aC)) (aW 11 dc) dR), ?_, ?_, ?_, ?_, ?_, ?_, ?_, ?_, ?_, ?_, ?_, fun _ _ _ _ _ _ af => obl rfl (zx (b := !aC) (b' := !cb) (af 12 dc) (fun hbp => (Eq.trans (af 23 dc) (if_pos hbp))) dR), fun _ _ _ _ _ _ aX => obl rfl (zP (v := .bool ((!aC) || (!cb))) (aX 24 dc) dR), ?_, ?_, ?_, ?_, ?_, ?_, ?_, ?_, ?_, ?_, ?_, fun _ _ _ _ _ _ ag => obl rfl (zx (b := (!aC) || (!cb)) (b' := !decide (bZ.byO = ca.byO ∧ bZ.byS = ca.byS)) (ag 25 dc) (fun hbp => (Eq.trans (ag 36 dc) (if_pos hbp))) dR), trivial⟩ ?_
 refine ob1 0 fun _ _ _ ah => (obl rfl ?_)
 have aY : k < a.length := bo
 exact ze (k := 13) (i := k) nT pT (ah 0 dc) ha.sl (ah 1 dc) aY dR
 refine ob1 0 fun _ _ (aZ : Sep _ _ _ _) ba => (obl rfl ?_)
 have ai : k < a.length := bo
 obtain ⟨aD, X, hoke431⟩ := ha.entD ai
 have hsm433 : ((a.getD k default).ev.deps).length * 8 ≤ 140737488355328 := X.small
 have aE := aZ.cells aD (ha.foot (ne_of_lt ai))
 exact zg (k := 10) (cs := [Iv (bZ.ev.origin), Iv (bZ.ev.seq), Iv (bZ.ev.lam), cc, Iv (bZ.ev.typ), Iv (bZ.ev.agg), Iv (bZ.ev.field), Iv (bZ.ev.op), Iv (bZ.ev.arg), Iv (bZ.ev.key)]) oT mT rfl (ba 3 dc) (CellsAt.sub aE 0 (cs2 := [Iv (bZ.ev.origin), Iv (bZ.ev.seq), Iv (bZ.ev.lam), cc, Iv (bZ.ev.typ), Iv (bZ.ev.agg), Iv (bZ.ev.field), Iv (bZ.ev.op), Iv (bZ.ev.arg), Iv (bZ.ev.key)]) rfl) dR
 refine ob1 0 fun _ _ _ aj => (obl rfl ?_)
 have bb : k < b.length := bo
 exact ze (k := 13) (i := k) nT pT (aj 5 dc) hb.sl (aj 6 dc) bb dR
 refine ob1 0 fun _ _ (bc : Sep _ _ _ _) bd => (obl rfl ?_)
 have ak : k < b.length := bo
 obtain ⟨aF, Y, hoke472⟩ := hb.entD ak
 have hsm474 : ((b.getD k default).ev.deps).length * 8 ≤ 140737488355328 := Y.small
 have aG := bc.cells aF (hb.foot (ne_of_lt ak))
 exact zg (k := 10) (cs := [Iv (ca.ev.origin), Iv (ca.ev.seq), Iv (ca.ev.lam), cd, Iv (ca.ev.typ), Iv (ca.ev.agg), Iv (ca.ev.field), Iv (ca.ev.op), Iv (ca.ev.arg), Iv (ca.ev.key)]) oT mT rfl (bd 8 dc) (CellsAt.sub aG 0 (cs2 := [Iv (ca.ev.origin), Iv (ca.ev.seq), Iv (ca.ev.lam), cd, Iv (ca.ev.typ), Iv (ca.ev.agg), Iv (ca.ev.field), Iv (ca.ev.op), Iv (ca.ev.arg), Iv (ca.ev.key)]) rfl) dR
 refine ob1 0 fun vals _ (Z : Sep _ _ _ _) aH => (obl rfl ?_)
 have aI : k < a.length := bo
 obtain ⟨be, O, aJ⟩ := ha.entD aI
 have hsm100 : ((a.getD k default).ev.deps).length * 8 ≤ 140737488355328 := O.small
 have hcw101 := Z.cells be (ha.foot (ne_of_lt aI))
 have al : k < b.length := bo
 obtain ⟨aK, N, aB⟩ := hb.entD al
 have hsm104 : ((b.getD k default).ev.deps).length * 8 ≤ 140737488355328 := N.small
 have hcw105 := Z.cells aK (hb.foot (ne_of_lt al))
 refine (zV (f := 39) (vals := [.agg ((bZ.ev).cells cc).toArray, .agg ((ca.ev).cells cd).toArray]) (cap := []) rfl (yH ⟨(aH 4 dc), (aH 9 dc), trivial⟩) Tryd.call39 (YF (a := (bZ.ev)) (b := (ca.ev)) O aJ.ev N aB.ev Z) ?_)
 rintro _ w106 ⟨rfl, bf⟩
 exact fun c d hv' => ⟨(And.intro d bf), trivial⟩
 refine ob1 1 fun _ _ bg _ => ?_
 obtain ⟨g, hS482⟩ := bg
 exact obl rfl (yc (a := decide ((bZ.ev) = (ca.ev))) g dR)
 refine fun _ _ _ _ _ _ bh => (zC rfl rfl (bh 12 dc) (fun D => ?_) (fun D => fun c d _ => ⟨trivial, d.trans (if_neg D).symm⟩))
 have hl498 := zB D
 exact mV va (fun c d _ => ⟨rfl, d.trans (if_pos D).symm⟩)
 refine fun _ _ _ _ _ _ bi => (zC rfl rfl (bi 12 dc) (fun E => ?_) (fun E => fun c d _ => ⟨trivial, d.trans (if_neg E).symm⟩))
 have hl507 := zB E
 exact mV (Iw k) (fun c d _ => ⟨rfl, d.trans (if_pos E).symm⟩)
 refine ob1 1 fun _ _ bj P => ?_
 obtain ⟨g, hS514⟩ := bj
 refine zC rfl rfl (P 12 dc) (fun l => ?_) (fun l => fun c d _ => ⟨trivial, d.trans (if_neg l).symm⟩)
 have hl519 := zB l
 have bk : k < a.length := bo
 exact ze (k := 13) (i := k) nT pT (Eq.trans (P 13 dc) (if_pos l)) ha.sl (Eq.trans (P 14 dc) (if_pos l)) bk (fun c d _ => ⟨rfl, d.trans (if_pos l).symm⟩)
 refine fun _ _ _ _ _ _ am => (zC rfl rfl (am 12 dc) (fun t => ?_) (fun t => fun c d _ => ⟨trivial, d.trans (if_neg t).symm⟩))
 have hl530 := zB t
 exact xa (Eq.trans (am 15 dc) (if_pos t)) (fun c d _ => ⟨rfl, d.trans (if_pos t).symm⟩)
 refine ob1 1 fun _ _ bl an => ?_
 obtain ⟨g, bm⟩ := bl
 refine zC rfl rfl (an 12 dc) (fun u => ?_) (fun u => fun c d _ => ⟨trivial, d.trans (if_neg u).symm⟩)
 have hl541 := zB u
 have ao : k < a.length := bo
 obtain ⟨aL, aa, hoke542⟩ := ha.entD ao
 have hsm544 : ((a.getD k default).ev.deps).length * 8 ≤ 140737488355328 := aa.small
 have aM := bm.cells aL (ha.foot (ne_of_lt ao))
 exact lD (.bool (bZ.void)) lR (Eq.trans (an 16 dc) (if_pos u)) (aM.get (j := 10) rfl) (fun c d _ => ⟨rfl, d.trans (if_pos u).symm⟩)
 refine fun _ _ _ _ _ _ bn => (zC rfl rfl (bn 12 dc) (fun F => ?_) (fun F => fun c d _ => ⟨trivial, d.trans (if_neg F).symm⟩))
 have hl554 := zB F
 exact mV vb (fun c d _ => ⟨rfl, d.trans (if_pos F).symm⟩)
 refine fun _ _ _ _ _ _ bp => (zC rfl rfl (bp 12 dc) (fun H => ?_) (fun H => fun c d _ => ⟨trivial, d.trans (if_neg H).symm⟩))
 have hl563 := zB H
 exact mV (Iw k) (fun c d _ => ⟨rfl, d.trans (if_pos H).symm⟩)
 refine ob1 1 fun _ _ bq Q => ?_
 obtain ⟨g, hS570⟩ := bq
 refine zC rfl rfl (Q 12 dc) (fun m => ?_) (fun m => fun c d _ => ⟨trivial, d.trans (if_neg m).symm⟩)
 have hl575 := zB m
 have br : k < b.length := bo
 exact ze (k := 13) (i := k) nT pT (Eq.trans (Q 18 dc) (if_pos m)) hb.sl (Eq.trans (Q 19 dc) (if_pos m)) br (fun c d _ => ⟨rfl, d.trans (if_pos m).symm⟩)
 refine fun _ _ _ _ _ _ ap => (zC rfl rfl (ap 12 dc) (fun x => ?_) (fun x => fun c d _ => ⟨trivial, d.trans (if_neg x).symm⟩))
 have hl586 := zB x
 exact xa (Eq.trans (ap 20 dc) (if_pos x)) (fun c d _ => ⟨rfl, d.trans (if_pos x).symm⟩)
 refine ob1 1 fun _ _ bs aq => ?_
 obtain ⟨g, bt⟩ := bs
 refine zC rfl rfl (aq 12 dc) (fun y => ?_) (fun y => fun c d _ => ⟨trivial, d.trans (if_neg y).symm⟩)
 have hl597 := zB y
 have ar : k < b.length := bo
 obtain ⟨aN, ab, hoke598⟩ := hb.entD ar
 have hsm600 : ((b.getD k default).ev.deps).length * 8 ≤ 140737488355328 := ab.small
 have aO := bt.cells aN (hb.foot (ne_of_lt ar))
 exact lD (.bool (ca.void)) lR (Eq.trans (aq 21 dc) (if_pos y)) (aO.get (j := 10) rfl) (fun c d _ => ⟨rfl, d.trans (if_pos y).symm⟩)
 refine ob1 1 fun _ _ bu R => ?_
 obtain ⟨g, hS608⟩ := bu
 refine zC rfl rfl (R 12 dc) (fun o => ?_) (fun o => fun c d _ => ⟨trivial, d.trans (if_neg o).symm⟩)
 have hl613 := zB o
 exact Wm (a := bZ.void) (b := ca.void) Tryd.underlying4 (Eq.trans (R 17 dc) (if_pos o)) (Eq.trans (R 22 dc) (if_pos o)) (fun c d _ => ⟨rfl, d.trans (if_pos o).symm⟩)
 refine fun _ _ _ _ _ _ bv => (zC rfl rfl (bv 25 dc) (fun I => ?_) (fun I => fun c d _ => ⟨trivial, d.trans (if_neg I).symm⟩))
 have bw := I
 try simp only [zf] at bw
 exact mV va (fun c d _ => ⟨rfl, d.trans (if_pos I).symm⟩)
 refine fun _ _ _ _ _ _ bx => (zC rfl rfl (bx 25 dc) (fun J => ?_) (fun J => fun c d _ => ⟨trivial, d.trans (if_neg J).symm⟩))
 have bz := J
 try simp only [zf] at bz
 exact mV (Iw k) (fun c d _ => ⟨rfl, d.trans (if_pos J).symm⟩)
 refine ob1 1 fun _ _ bA S => ?_
 obtain ⟨g, hS653⟩ := bA
 refine zC rfl rfl (S 25 dc) (fun p => ?_) (fun p => fun c d _ => ⟨trivial, d.trans (if_neg p).symm⟩)
 have bB := p
 try simp only [zf] at bB
 have bC : k < a.length := bo
 exact ze (k := 13) (i := k) nT pT (Eq.trans (S 26 dc) (if_pos p)) ha.sl (Eq.trans (S 27 dc) (if_pos p)) bC (fun c d _ => ⟨rfl, d.trans (if_pos p).symm⟩)
 refine fun _ _ _ _ _ _ au => (zC rfl rfl (au 25 dc) (fun z => ?_) (fun z => fun c d _ => ⟨trivial, d.trans (if_neg z).symm⟩))
 have bD := z
 try simp only [zf] at bD
 exact Zk (Eq.trans (au 28 dc) (if_pos z)) (fun c d _ => ⟨rfl, d.trans (if_pos z).symm⟩)
 refine ob1 1 fun _ _ bE av => ?_
 obtain ⟨g, bF⟩ := bE
 refine zC rfl rfl (av 25 dc) (fun A => ?_) (fun A => fun c d _ => ⟨trivial, d.trans (if_neg A).symm⟩)
 have bG := A
 try simp only [zf] at bG
 have aw : k < a.length := bo
 obtain ⟨aP, ac, hoke681⟩ := ha.entD aw
 have hsm683 : ((a.getD k default).ev.deps).length * 8 ≤ 140737488355328 := ac.small
 have aQ := bF.cells aP (ha.foot (ne_of_lt aw))
 exact zg (k := 2) (cs := [Iv (bZ.byO), Iv (bZ.byS)]) tT uT rfl (Eq.trans (av 29 dc) (if_pos A)) (CellsAt.sub aQ 11 (cs2 := [Iv (bZ.byO), Iv (bZ.byS)]) rfl) (fun c d _ => ⟨rfl, d.trans (if_pos A).symm⟩)
 refine fun _ _ _ _ _ _ bH => (zC rfl rfl (bH 25 dc) (fun K => ?_) (fun K => fun c d _ => ⟨trivial, d.trans (if_neg K).symm⟩))
 have bI := K
 try simp only [zf] at bI
 exact mV vb (fun c d _ => ⟨rfl, d.trans (if_pos K).symm⟩)
 refine fun _ _ _ _ _ _ bJ => (zC rfl rfl (bJ 25 dc) (fun L => ?_) (fun L => fun c d _ => ⟨trivial, d.trans (if_neg L).symm⟩))
 have bK := L
 try simp only [zf] at bK
 exact mV (Iw k) (fun c d _ => ⟨rfl, d.trans (if_pos L).symm⟩)
 refine ob1 1 fun _ _ bL T => ?_
 obtain ⟨g, hS709⟩ := bL
 refine zC rfl rfl (T 25 dc) (fun q => ?_) (fun q => fun c d _ => ⟨trivial, d.trans (if_neg q).symm⟩)
 have bM := q
 try simp only [zf] at bM
 have bN : k < b.length := bo
 exact ze (k := 13) (i := k) nT pT (Eq.trans (T 31 dc) (if_pos q)) hb.sl (Eq.trans (T 32 dc) (if_pos q)) bN (fun c d _ => ⟨rfl, d.trans (if_pos q).symm⟩)
 refine fun _ _ _ _ _ _ ax => (zC rfl rfl (ax 25 dc) (fun B => ?_) (fun B => fun c d _ => ⟨trivial, d.trans (if_neg B).symm⟩))
 have bO := B
 try simp only [zf] at bO
 exact Zk (Eq.trans (ax 33 dc) (if_pos B)) (fun c d _ => ⟨rfl, d.trans (if_pos B).symm⟩)
 refine ob1 1 fun _ _ bP ay => ?_
 obtain ⟨g, bQ⟩ := bP
 refine zC rfl rfl (ay 25 dc) (fun C => ?_) (fun C => fun c d _ => ⟨trivial, d.trans (if_neg C).symm⟩)
 have bR := C
 try simp only [zf] at bR
 have az : k < b.length := bo
 obtain ⟨aR, ad, hoke737⟩ := hb.entD az
 have hsm739 : ((b.getD k default).ev.deps).length * 8 ≤ 140737488355328 := ad.small
 have aT := bQ.cells aR (hb.foot (ne_of_lt az))
 exact zg (k := 2) (cs := [Iv (ca.byO), Iv (ca.byS)]) tT uT rfl (Eq.trans (ay 34 dc) (if_pos C)) (CellsAt.sub aT 11 (cs2 := [Iv (ca.byO), Iv (ca.byS)]) rfl) (fun c d _ => ⟨rfl, d.trans (if_pos C).symm⟩)
 refine ob1 1 fun _ _ bS U => ?_
 obtain ⟨g, hS747⟩ := bS
 refine zC rfl rfl (U 25 dc) (fun s => ?_) (fun s => fun c d _ => ⟨trivial, d.trans (if_neg s).symm⟩)
 have bT := s
 try simp only [zf] at bT
 exact ZH (e := decide (bZ.byO = ca.byO ∧ bZ.byS = ca.byS)) (xs := #[Iv (bZ.byO), Iv (bZ.byS)]) (ys := #[Iv (ca.byO), Iv (ca.byS)]) WG (Eq.trans (U 30 dc) (if_pos s)) (Eq.trans (U 35 dc) (if_pos s)) (fun c d _ => ⟨rfl, d.trans (if_pos s).symm⟩)
 intro vals w761 bU bV
 obtain ⟨g, aA⟩ := bU
 have bY := bV 37 dc
 refine zZ (kv := [(0, va), (1, vb), (5, Iw k), (11, Iw k), (12, va), (13, Iw a.length), (14, .bool true), (54, .bool (((!aC) || (!cb)) || (!decide (bZ.byO = ca.byO ∧ bZ.byS = ca.byS))))]) ⟨rfl, rfl, rfl, rfl, rfl, rfl, rfl, (by exact bY), trivial⟩ (fun ρw761 => (zb ?_))
 cases M : ((!(decide (((a.getD k default).ev) = ((b.getD k default).ev)))) || (!(((a.getD k default).void) == ((b.getD k default).void)))) || (!decide ((a.getD k default).byO = (b.getD k default).byO ∧ (a.getD k default).byS = (b.getD k default).byS))
 try simp only [zf] at M
 refine zi rfl (zk (R0 fun _ => st (mV (Iw k) ?_)))
 have bW : InR ((k + 1 : Nat) : Int) := bo
 refine st (zH (r := ((k + 1 : Nat) : Int)) (k := .i64) (a := ((k : Nat) : Int)) (b := 1) rfl rfl (by rw [show (((k : Nat) : Int) + 1 : Int) = ((k + 1 : Nat) : Int) from bo]; exact zz bW) (st (aS (Iw (k + 1)) (zb ?_))))
 exact ⟨_, by omega, k + 1, _, rfl, sSf, by omega, (xb hm (Kh M)), aA⟩
 try simp only [zf] at M
 refine zj rfl (za (R0 fun _ => st (aS (.bool false) (zb (zm (zL vR (show _ = (.bool false : Value) from rfl) ?_))))))
 refine ⟨?_, aA⟩
 rw [decide_eq_false (fun e => by subst e; first | omega | (simp at M))]
 have V := zM V
 refine zj rfl (za (R0 fun _ => st (aS (.bool false) (zb (zm (zL vR (show _ = (.bool false : Value) from rfl) ?_))))))
 refine ⟨?_, hS0⟩
 rw [decide_eq_false (fun e => by subst e; first | omega | (simp at V))]

theorem Qt {a b : Cel} (h1 : a.n = b.n) (h2 : a.set = b.set) : a = b := by cases a; cases b; simp_all
theorem Kz {a b : Sta} (h1 : a.ver = b.ver) (h2 : a.cls = b.cls) : a = b := by cases a; cases b; simp_all
theorem YB {G : Nat → Prop} {W w : World} {Rs : List HP} {x : Sta} {dx0 : Value} (hdx0 : RdS W G dx0 x.cls) (ox : x.Ok) {y : Sta} {dy0 : Value} (hdy0 : RdS W G dy0 y.cls) (oy : y.Ok) (hS0 : Sep G W Rs w) : Ret Tryd.prog 34 [.agg (x.cells dx0).toArray, .agg (y.cells dy0).toArray] w (fun r w' => r = (.bool (decide (x = y)) : Value) ∧ Sep G W Rs w') := by
 let bx := ((x.cls.length : Nat) : Int)
 have hdx0s : _ * 32 ≤ _ := hdx0.small
 have hdy0s : _ * 32 ≤ _ := hdy0.small
 refine zl (args := [.agg (x.cells dx0).toArray, .agg (y.cells dy0).toArray]) Tryd.func34 rfl rfl ?_
 refine za (R0 fun _ => st (zR (v := .agg (x.cells dx0).toArray) rfl ?_))
 intro w3 b2 bq
 refine st (zR (v := .agg (y.cells dy0).toArray) rfl ?_)
 intro w7 O br
 have J := (hS0.new bq).new br
 refine st (aS (.bool false) (zb (za (za (zw kr (st (Zm rfl (st (lD (Iv (x.ver)) lT rfl (zd (J.b1) rfl) (st (Zm rfl (st (lD (Iv (y.ver)) lT rfl (zd (J.b0) rfl) (st (yh (k := .i64) (a := x.ver) (b := y.ver) rfl rfl (st (mV (.bool (!decide (x.ver = y.ver))) (stc (V := Ix b2 1) rfl rfl (fun bs => ?_) ?_))))))))))))))))))
 have hl10 := zB bs
 exact yw rfl ⟨rfl, rfl⟩
 refine stc (V := dx0) rfl rfl (fun aq => ?_) ?_
 have hl12 := zB aq
 exact lD dx0 qT (if_pos aq) (zd (J.b1) rfl) ⟨rfl, rfl⟩
 refine stc (V := Iw x.cls.length) rfl rfl (fun ar => ?_) ?_
 have hl14 := zB ar
 exact zA (n := x.cls.length) rT (if_pos ar) hdx0.sl ⟨rfl, rfl⟩
 refine stc (V := Ix O 1) rfl rfl (fun bm => ?_) ?_
 have hl16 := zB bm
 exact yw rfl ⟨rfl, rfl⟩
 refine stc (V := dy0) rfl rfl (fun au => ?_) ?_
 have hl18 := zB au
 exact lD dy0 qT (if_pos au) (zd (J.b0) rfl) ⟨rfl, rfl⟩
 refine stc (V := Iw y.cls.length) rfl rfl (fun av => ?_) ?_
 have hl20 := zB av
 exact zA (n := y.cls.length) rT (if_pos av) hdy0.sl ⟨rfl, rfl⟩
 refine stc (V := .bool (!decide (bx = ((y.cls.length : Nat) : Int)))) rfl rfl (fun P => ?_) ?_
 have hl22 := zB P
 exact yh (k := .i64) (a := bx) (b := ((y.cls.length : Nat) : Int)) (if_pos P) (if_pos P) ⟨rfl, rfl⟩
 refine st (zx (b := !decide (x.ver = y.ver)) (b' := !decide (bx = ((y.cls.length : Nat) : Int))) rfl (fun hbp => (if_pos hbp)) (zb ?_))
 cases Q : (!decide (x.ver = y.ver)) || (!decide (((x.cls.length : Nat) : Int) = ((y.cls.length : Nat) : Int)))
 try simp only [zf] at Q
 refine zi rfl (zk (za (za (R0 fun _ => st (aS (Iv 0) (zb (zn (zX (fun mq σ wq => ∃ (k : Nat) (ρ : Env), mq = x.cls.length - k ∧ σ = yb ρ [(2, Ix b2 0), (3, Ix O 0), (5, Iw k)] ∧ (k ≤ x.cls.length) ∧ (∀ i, i < k → x.cls.getD i default = y.cls.getD i default) ∧ Sep G W ((Blk O (y.cells dy0).toArray 68) :: (Blk b2 (x.cells dx0).toArray 68) :: Rs) wq) ⟨0, _, rfl, sSf, Nat.zero_le _, (fun i h => absurd h (Nat.not_lt_zero i)), J⟩ ?_))))))))
 rintro m25 σ26 w24 ⟨k, ρl1, rfl, rfl, hkk, hm, R⟩
 let bw := zy W (sb dy0) (so dy0 + k * 2 + 1)
 let bv := zy W (sb dx0) (so dx0 + k * 2 + 1)
 let bu := ((x.cls.getD k default).set) = ((y.cls.getD k default).set)
 let aw := ((x.cls.getD k default).n) = ((y.cls.getD k default).n)
 refine za (za (R0 fun _ => st (mV (Iw k) (st (yw rfl (st (lD dx0 qT rfl (zd (R.b1) rfl) (st (zA (n := x.cls.length) rT rfl hdx0.sl (st (zD (k := .i64) (a := ((k : Nat) : Int)) (b := bx) rfl rfl (zb ?_))))))))))))
 cases K : decide (((k : Nat) : Int) < ((x.cls.length : Nat) : Int))
 have K := fD K
 refine zi rfl (zU (zI (za (R0 fun _ => st (aS (.bool true) (zb (zm (zL wR (show _ = (.bool true : Value) from rfl) ?_))))))))
 refine ⟨?_, (R.s2_)⟩
 rw [decide_eq_true (Kz (by omega) (XB (by omega) (fun i hi => hm i (by omega))))]
 have K := tD K
 refine zj rfl (zk (za (zn (za ?_))))
 refine WD4 ((fun TT bl => WF [fun vals wq => Sep G W (bl :: TT) wq, fun vals wq => (vals 26 = (if (!decide aw) = false then (.bool (decide bu) : Value) else undef)) ∧ Sep G W (bl :: TT) wq]) ((Blk b2 (x.cells dx0).toArray 68) :: Rs) (Blk O (y.cells dy0).toArray 68)) (AF [Vl 0 (Ix b2 1), Vl 1 (dx0), Vl 2 (Iw k), Vl 3 (Ix (sb dx0) (so dx0 + k * 2)), Vl 4 (Ix (sb dx0) (so dx0 + k * 2)), Vl 5 (Iv ((x.cls.getD k default).n)), Vl 6 (Ix O 1), Vl 7 (dy0), Vl 8 (Iw k), Vl 9 (Ix (sb dy0) (so dy0 + k * 2)), Vl 10 (Ix (sb dy0) (so dy0 + k * 2)), Vl 11 (Iv ((y.cls.getD k default).n)), Vl 12 (.bool (!decide aw)), Vl 13 (.bool (!decide aw)), Vl 14 (if (!decide aw) = false then Ix b2 1 else undef), Vl 15 (if (!decide aw) = false then dx0 else undef), Vl 16 (if (!decide aw) = false then Iw k else undef), Vl 17 (if (!decide aw) = false then Ix (sb dx0) (so dx0 + k * 2) else undef), Vl 18 (if (!decide aw) = false then Ix (sb dx0) (so dx0 + k * 2 + 1) else undef), Vl 19 (if (!decide aw) = false then bv else undef), Vl 20 (if (!decide aw) = false then Ix O 1 else undef), Vl 21 (if (!decide aw) = false then dy0 else undef), Vl 22 (if (!decide aw) = false then Iw k else undef), Vl 23 (if (!decide aw) = false then Ix (sb dy0) (so dy0 + k * 2) else undef), Vl 24 (if (!decide aw) = false then Ix (sb dy0) (so dy0 + k * 2 + 1) else undef), Vl 25 (if (!decide aw) = false then bw else undef), fun _ => True, Vl 27 (if (!decide aw) = false then .bool (!(decide bu)) else undef), Vl 28 (.bool ((!decide aw) || (!(decide bu))))]) [[], [0], [], [0, 1, 2], (rg 4), (rg 5), [], [6], [], [6, 7, 8], [6, 7, 8, 9], [6, 7, 8, 9, 10], (rg 12), (rg 13), (rg 14), (rg 15), (rg 14), (rg 17), (rg 18), (rg 19), (rg 14), [0, 1, 2, 3, 4, 5, 6, 7, 8, 9, 10, 11, 12, 13, 20], (rg 14), [0, 1, 2, 3, 4, 5, 6, 7, 8, 9, 10, 11, 12, 13, 20, 21, 22], [0, 1, 2, 3, 4, 5, 6, 7, 8, 9, 10, 11, 12, 13, 20, 21, 22, 23], [0, 1, 2, 3, 4, 5, 6, 7, 8, 9, 10, 11, 12, 13, 20, 21, 22, 23, 24], (rg 26), (rg 27), (rg 28)] [26] [(0, 0), (0, 0), (0, 0), (0, 0), (0, 0), (0, 0), (0, 0), (0, 0), (0, 0), (0, 0), (0, 0), (0, 0), (0, 0), (0, 0), (0, 0), (0, 0), (0, 0), (0, 0), (0, 0), (0, 0), (0, 0), (0, 0), (0, 0), (0, 0), (0, 0), (0, 0), (0, 0), (1, 1), (1, 1)] R ⟨fun _ _ _ _ _ _ _ => obl rfl (yw rfl dR), ob1 0 fun _ _ (aH : Sep _ _ _ _) aI => obl rfl (lD dx0 qT (aI 0 dc) (zd (aH.b1) rfl) dR), fun _ _ _ _ _ _ _ => obl rfl (mV (Iw k) dR), ?_, fun _ _ _ _ _ _ aJ => obl rfl (yL (aJ 3 dc) dR), ?_, fun _ _ _ _ _ _ _ => obl rfl (yw rfl dR), ob1 0 fun _ _ (aK : Sep _ _ _ _) aL => obl rfl (lD dy0 qT (aL 6 dc) (zd (aK.b0) rfl) dR), fun _ _ _ _ _ _ _ => obl rfl (mV (Iw k) dR), ?_, fun _ _ _ _ _ _ aM => obl rfl (yL (aM 9 dc) dR), ?_, ob1 0 fun _ _ _ Y => obl rfl (yh (k := .i64) (a := (x.cls.getD k default).n) (b := (y.cls.getD k default).n) (Y 5 dc) (Y 11 dc) dR), fun _ _ _ _ _ _ aN => obl rfl (zP (v := .bool (!decide aw)) (aN 12 dc) dR), ?_, ?_, ?_, ?_, ?_, ?_, ?_, ?_, ?_, ?_, ?_, ?_, ?_, ?_, fun _ _ _ _ _ _ Z => obl rfl (zx (b := !decide aw) (b' := !(decide bu)) (Z 13 dc) (fun hbp => (Eq.trans (Z 27 dc) (if_pos hbp))) dR), trivial⟩ ?_
 refine ob1 0 fun _ _ _ aa => (obl rfl ?_)
 have aO : k < x.cls.length := bo
 exact ze (k := 2) (i := k) rT oR (aa 1 dc) hdx0.sl (aa 2 dc) aO dR
 refine ob1 0 fun _ _ (aP : Sep _ _ _ _) aQ => (obl rfl ?_)
 have ab : k < x.cls.length := bo
 obtain ⟨ax, S, hoke364⟩ := hdx0.celD ab
 have hsm366 : ((x.cls.getD k default).set).length * 8 ≤ 140737488355328 := S.small
 have ay := aP.cells ax (hdx0.foot (ne_of_lt ab))
 exact lD (Iv ((x.cls.getD k default).n)) lT (aQ 4 dc) (ay.get (j := 0) rfl) dR
 refine ob1 0 fun _ _ _ ac => (obl rfl ?_)
 have aR : k < y.cls.length := bo
 exact ze (k := 2) (i := k) rT oR (ac 7 dc) hdy0.sl (ac 8 dc) aR dR
 refine ob1 0 fun _ _ (aT : Sep _ _ _ _) aU => (obl rfl ?_)
 have ad : k < y.cls.length := bo
 obtain ⟨az, T, hoke413⟩ := hdy0.celD ad
 have hsm415 : ((y.cls.getD k default).set).length * 8 ≤ 140737488355328 := T.small
 have aA := aT.cells az (hdy0.foot (ne_of_lt ad))
 exact lD (Iv ((y.cls.getD k default).n)) lT (aU 10 dc) (aA.get (j := 0) rfl) dR
 refine fun _ _ _ _ _ _ aV => (zC rfl rfl (aV 13 dc) (fun B => ?_) (fun B => fun c d _ => ⟨trivial, d.trans (if_neg B).symm⟩))
 have hl441 := zB B
 exact yw rfl (fun c d _ => ⟨rfl, d.trans (if_pos B).symm⟩)
 refine ob1 0 fun _ _ (aW : Sep _ _ _ _) ae => (zC rfl rfl (ae 13 dc) (fun o => ?_) (fun o => fun c d _ => ⟨trivial, d.trans (if_neg o).symm⟩))
 have hl452 := zB o
 exact lD dx0 qT (Eq.trans (ae 14 dc) (if_pos o)) (zd (aW.b1) rfl) (fun c d _ => ⟨rfl, d.trans (if_pos o).symm⟩)
 refine fun _ _ _ _ _ _ aX => (zC rfl rfl (aX 13 dc) (fun C => ?_) (fun C => fun c d _ => ⟨trivial, d.trans (if_neg C).symm⟩))
 have hl461 := zB C
 exact mV (Iw k) (fun c d _ => ⟨rfl, d.trans (if_pos C).symm⟩)
 refine ob1 0 fun _ _ _ L => (zC rfl rfl (L 13 dc) (fun g => ?_) (fun g => fun c d _ => ⟨trivial, d.trans (if_neg g).symm⟩))
 have hl473 := zB g
 have aY : k < x.cls.length := bo
 exact ze (k := 2) (i := k) rT oR (Eq.trans (L 15 dc) (if_pos g)) hdx0.sl (Eq.trans (L 16 dc) (if_pos g)) aY (fun c d _ => ⟨rfl, d.trans (if_pos g).symm⟩)
 refine fun _ _ _ _ _ _ af => (zC rfl rfl (af 13 dc) (fun p => ?_) (fun p => fun c d _ => ⟨trivial, d.trans (if_neg p).symm⟩))
 have hl484 := zB p
 exact yC (Eq.trans (af 17 dc) (if_pos p)) (fun c d _ => ⟨rfl, d.trans (if_pos p).symm⟩)
 refine ob1 0 fun _ _ (aZ : Sep _ _ _ _) ag => (zC rfl rfl (ag 13 dc) (fun q => ?_) (fun q => fun c d _ => ⟨trivial, d.trans (if_neg q).symm⟩))
 have hl495 := zB q
 have ah : k < x.cls.length := bo
 obtain ⟨aB, U, hoke496⟩ := hdx0.celD ah
 have hsm498 : ((x.cls.getD k default).set).length * 8 ≤ 140737488355328 := U.small
 have aC := aZ.cells aB (hdx0.foot (ne_of_lt ah))
 exact lD bv wT (Eq.trans (ag 18 dc) (if_pos q)) (aC.get (j := 1) rfl) (fun c d _ => ⟨rfl, d.trans (if_pos q).symm⟩)
 refine fun _ _ _ _ _ _ ba => (zC rfl rfl (ba 13 dc) (fun D => ?_) (fun D => fun c d _ => ⟨trivial, d.trans (if_neg D).symm⟩))
 have hl508 := zB D
 exact yw rfl (fun c d _ => ⟨rfl, d.trans (if_pos D).symm⟩)
 refine ob1 0 fun _ _ (bb : Sep _ _ _ _) ai => (zC rfl rfl (ai 13 dc) (fun s => ?_) (fun s => fun c d _ => ⟨trivial, d.trans (if_neg s).symm⟩))
 have hl519 := zB s
 exact lD dy0 qT (Eq.trans (ai 20 dc) (if_pos s)) (zd (bb.b0) rfl) (fun c d _ => ⟨rfl, d.trans (if_pos s).symm⟩)
 refine fun _ _ _ _ _ _ bc => (zC rfl rfl (bc 13 dc) (fun E => ?_) (fun E => fun c d _ => ⟨trivial, d.trans (if_neg E).symm⟩))
 have hl528 := zB E
 exact mV (Iw k) (fun c d _ => ⟨rfl, d.trans (if_pos E).symm⟩)
 refine ob1 0 fun _ _ _ M => (zC rfl rfl (M 13 dc) (fun l => ?_) (fun l => fun c d _ => ⟨trivial, d.trans (if_neg l).symm⟩))
 have hl540 := zB l
 have bd : k < y.cls.length := bo
 exact ze (k := 2) (i := k) rT oR (Eq.trans (M 21 dc) (if_pos l)) hdy0.sl (Eq.trans (M 22 dc) (if_pos l)) bd (fun c d _ => ⟨rfl, d.trans (if_pos l).symm⟩)
 refine fun _ _ _ _ _ _ aj => (zC rfl rfl (aj 13 dc) (fun t => ?_) (fun t => fun c d _ => ⟨trivial, d.trans (if_neg t).symm⟩))
 have hl551 := zB t
 exact yC (Eq.trans (aj 23 dc) (if_pos t)) (fun c d _ => ⟨rfl, d.trans (if_pos t).symm⟩)
 refine ob1 0 fun _ _ (be : Sep _ _ _ _) ak => (zC rfl rfl (ak 13 dc) (fun u => ?_) (fun u => fun c d _ => ⟨trivial, d.trans (if_neg u).symm⟩))
 have hl562 := zB u
 have al : k < y.cls.length := bo
 obtain ⟨aD, X, hoke563⟩ := hdy0.celD al
 have hsm565 : ((y.cls.getD k default).set).length * 8 ≤ 140737488355328 := X.small
 have aE := be.cells aD (hdy0.foot (ne_of_lt al))
 exact lD bw wT (Eq.trans (ak 24 dc) (if_pos u)) (aE.get (j := 1) rfl) (fun c d _ => ⟨rfl, d.trans (if_pos u).symm⟩)
 refine ob1 0 fun vals bn (F : Sep _ _ _ _) N => (zC rfl rfl (N 13 dc) (fun m => ?_) (fun m c d bt => ?_))
 have hl289 := zB m
 have am : k < x.cls.length := bo
 obtain ⟨aF, H, hoke290⟩ := hdx0.celD am
 have hsm292 : ((x.cls.getD k default).set).length * 8 ≤ 140737488355328 := H.small
 have hcw293 := F.cells aF (hdx0.foot (ne_of_lt am))
 have an : k < y.cls.length := bo
 obtain ⟨aG, I, hoke294⟩ := hdy0.celD an
 have hsm296 : ((y.cls.getD k default).set).length * 8 ≤ 140737488355328 := I.small
 have hcw297 := F.cells aG (hdy0.foot (ne_of_lt an))
 refine (zV (f := 19) (vals := [bv, bw]) (cap := []) rfl (yH ⟨(Eq.trans (N 19 dc) (if_pos m)), (Eq.trans (N 25 dc) (if_pos m)), trivial⟩) mY (Xw (a := (x.cls.getD k default).set) (va := bv) (b := (y.cls.getD k default).set) (vb := bw) H I F) ?_)
 rintro _ w298 ⟨rfl, bf⟩
 exact fun c d bt => ⟨(And.intro (d.trans (if_pos m).symm) bf), trivial⟩
 refine ⟨?_, trivial⟩
 show (c 26 = (if (!decide aw) = false then (.bool (decide bu) : Value) else undef)) ∧ Sep G W ((Blk O (y.cells dy0).toArray 68) :: (Blk b2 (x.cells dx0).toArray 68) :: Rs) bn
 exact ⟨(d.trans (if_neg m).symm), F⟩
 refine ob1 1 fun _ _ bg bh => ?_
 obtain ⟨ao, hS573⟩ := bg
 refine zC rfl rfl (bh 13 dc) (fun z => ?_) (fun z => fun c d _ => ⟨trivial, d.trans (if_neg z).symm⟩)
 have hl576 := zB z
 exact yc (a := decide bu) (Eq.trans ao (if_pos z)) (fun c d _ => ⟨rfl, d.trans (if_pos z).symm⟩)
 intro vals w585 bi bj
 obtain ⟨ao, ap⟩ := bi
 have bp := bj 28 dc
 refine zZ (kv := [(2, Ix b2 0), (3, Ix O 0), (5, Iw k), (20, Iw k), (21, Ix b2 1), (22, dx0), (23, Iw x.cls.length), (24, .bool true), (55, .bool ((!decide aw) || (!(decide bu))))]) ⟨rfl, rfl, rfl, rfl, rfl, rfl, rfl, rfl, (by exact bp), trivial⟩ (fun ρw585 => (zb ?_))
 cases A : (!decide (((x.cls.getD k default).n) = ((y.cls.getD k default).n))) || (!(decide (((x.cls.getD k default).set) = ((y.cls.getD k default).set))))
 try simp only [zf] at A
 refine zi rfl (zk (R0 fun _ => st (mV (Iw k) ?_)))
 have bk : InR ((k + 1 : Nat) : Int) := bo
 refine st (zH (r := ((k + 1 : Nat) : Int)) (k := .i64) (a := ((k : Nat) : Int)) (b := 1) rfl rfl (by rw [show (((k : Nat) : Int) + 1 : Int) = ((k + 1 : Nat) : Int) from bo]; exact zz bk) (st (aS (Iw (k + 1)) (zb ?_))))
 exact ⟨_, by omega, k + 1, _, rfl, sSf, by omega, (xb hm (Qt A.1 A.2)), ap⟩
 try simp only [zf] at A
 refine zj rfl (za (R0 fun _ => st (aS (.bool false) (zb (zm (zL wR (show _ = (.bool false : Value) from rfl) ?_))))))
 refine ⟨?_, (ap.s2_)⟩
 rw [decide_eq_false (fun e => by subst e; first | omega | (simp at A))]
 try simp only [zf] at Q
 refine zj rfl (za (R0 fun _ => st (aS (.bool false) (zb (zm (zL wR (show _ = (.bool false : Value) from rfl) ?_))))))
 refine ⟨?_, (J.s2_)⟩
 rw [decide_eq_false (fun e => by subst e; first | omega | (simp at Q))]

theorem XF {d : Dcl} {k : Int × Int} {L : List Ent} (h : L.length ≤ 1000000) : Sta.Ok (ye d k L) := ⟨show InR ((yd k L : Nat) : Int) by have := YX k L; omega⟩
end Go.Proofs.YtlblilbmpdejgaaDoor
namespace Go.Proofs.YtlblilbmpdejgaaDoor
open Go.RowKit
structure TypS where
  v : Value
  deriving Inhabited
structure TypS.Ok (e : TypS) : Prop where
  one : e.v.oneCell' = true
def TypS.cells (e : TypS) : List Value := [e.v]
instance : Rep TypS where
  k := 1
  rd _ _ cs x := cs = x.cells ∧ x.Ok
  bytes := 24
  bpos := by decide
  kpos := by decide
  len h := by rw [h.1]; rfl
  one h := by rw [h.1]; exact zW ⟨h.2.one, trivial⟩
  mono h _ := h
instance : Flat TypS := ⟨fun h => h⟩
def FldRows (Ti : TypeId) : List TypS → List Typ → List HP
  | s :: sh, c :: l => RowE (α := Fld) own Ti s.v c.fields :: FldRows Ti sh l
  | _, _ => []
theorem FldRows.get {Ti : TypeId} : ∀ {sh : List TypS} {l : List Typ} {i : Nat}, i < sh.length → i < l.length → (FldRows Ti sh l)[i]? = some (RowE (α := Fld) own Ti (sh.getD i default).v (l.getD i default).fields)
  | _ :: _, _ :: _, 0, _, _ => rfl
  | _ :: _, _ :: _, i + 1, h1, h2 => by
    have := FldRows.get (Ti := Ti) (i := i) (by simpa using h1) (by simpa using h2)
    simpa [FldRows] using this
  | [], _, i, h, _ => absurd h (Nat.not_lt_zero i)
  | _ :: _, [], i, _, h => absurd h (Nat.not_lt_zero i)
theorem FldRows.len {Ti : TypeId} : ∀ {sh : List TypS} {l : List Typ}, sh.length = l.length → (FldRows Ti sh l).length = l.length
  | [], [], _ => rfl
  | _ :: _, _ :: _, h => by simpa [FldRows] using FldRows.len (Ti := Ti) (by simpa using h)
  | [], _ :: _, h => by simp at h
  | _ :: _, [], h => by simp at h
theorem FldRows.set {Ti : TypeId} : ∀ {sh : List TypS} {l : List Typ} (i : Nat) (c : Typ), FldRows Ti sh (l.set i c) = if i < sh.length ∧ i < l.length then (FldRows Ti sh l).set i (RowE (α := Fld) own Ti (sh.getD i default).v c.fields) else FldRows Ti sh l
  | [], [], _, _ => by simp [FldRows]
  | _ :: _, _ :: _, 0, _ => by simp [FldRows]
  | _ :: sh, _ :: l, i + 1, c => by
    simp only [List.set_cons_succ, FldRows]
    rw [FldRows.set i c]
    by_cases h : i < sh.length ∧ i < l.length
    · rw [if_pos h, if_pos (by simpa using h)]; simp
    · rw [if_neg h, if_neg (by simpa using h)]
  | [], _ :: _, i, _ => by cases i <;> simp [FldRows]
  | _ :: _, [], _, _ => by simp [FldRows]
theorem FldRows.snoc {Ti : TypeId} : ∀ {sh : List TypS} {l : List Typ} (s : TypS) (c : Typ), sh.length = l.length → FldRows Ti (sh ++ [s]) (l ++ [c]) = FldRows Ti sh l ++ [RowE (α := Fld) own Ti s.v c.fields]
  | [], [], _, _, _ => rfl
  | _ :: sh, _ :: l, s, c, h => by simp only [List.cons_append, FldRows]; rw [FldRows.snoc s c (by simpa using h)]
  | [], _ :: _, _, _, h => by simp at h
  | _ :: _, [], _, _, h => by simp at h
section
variable {G : Nat → Prop} {W w : World} {As : List HP} {T Ti : TypeId} {v : Value} {sh : List TypS} {l : List Typ}
def TypW (v : Value) (T Ti : TypeId) (l : List Typ) : HP := Ex1 fun sh : List TypS => UP (sh.length = l.length) (Star [RowE (α := TypS) own T v sh, Star (FldRows Ti sh l)])
theorem TypW.open (h : Sep G W (TypW v T Ti l :: As) w) : ∃ sh : List TypS, sh.length = l.length ∧ Sep G W (RowE (α := TypS) own T v sh :: Star (FldRows Ti sh l) :: As) w := by
  obtain ⟨sh, h1⟩ := h.openEx
  obtain ⟨h2, h3⟩ := h1.openAnd
  exact ⟨sh, h2, h3.openStar⟩
theorem TypW.mk (h : Sep G W (RowE (α := TypS) own T v sh :: Star (FldRows Ti sh l) :: As) w) (hn : sh.length = l.length) : Sep G W (TypW v T Ti l :: As) w :=
  Sep.closeEx (A := fun sh : List TypS => UP (sh.length = l.length) (Star [RowE (α := TypS) own T v sh, Star (FldRows Ti sh l)])) sh (Sep.closeAnd hn (Sep.closeStar (Bs := [RowE (α := TypS) own T v sh, Star (FldRows Ti sh l)]) h))
theorem TypW.rowP {f : Nat → Prop} (h : (TypW v T Ti l).p w f) : (RowE (α := Typ) own T v l).p w f := by
  obtain ⟨sh, hlen, hA⟩ := h
  obtain ⟨fs, q1, q2⟩ := hA
  obtain ⟨⟨css, hE, hown, hrow, hsm⟩, hf0⟩ := q1 0 _ rfl
  obtain ⟨hSt, hf1⟩ := q1 1 _ rfl
  have q2' := q2 0 1 (by simp) (by simp) (by simp)
  have hcl := hE.length
  refine ⟨css, EP.of_at (by omega) (fun i h1 h2 => ?_), by rw [← hlen]; exact hown, fun b hb => (hf0 b (hrow b hb)).1, by rw [← hlen]; exact hsm⟩
  have hs : i < sh.length := by omega
  have hcs : css[i] = sh[i].cells := (EP.at2 hE i h1 hs).1
  have hr : (RowE (α := Fld) own Ti (sh.getD i default).v (l.getD i default).fields).p w (fs 1) := Star.at_ hSt (FldRows.get hs h2)
  have hsoft := RowE.soft hr
  rw [zG _ hs, zG _ h2] at hsoft
  refine ⟨sh[i].v, ?_, hsoft.mono (fun b hb hlt => ⟨rfl, ⟨(hf1 b hb.1).1, fun e => q2' b (hrow b e) hb.1⟩, hb.2⟩), ⟨⟩⟩
  rw [hcs]; rfl
theorem TypW.row (h : Sep G W (TypW v T Ti l :: As) w) : Sep G W (RowE (α := Typ) own T v l :: As) w := h.impl (i := 0) rfl (fun _ => TypW.rowP)
theorem Sep.typSl (h : Sep G W As w) {i : Nat} (hi : As[i]? = some (TypW v T Ti l)) : IsSl v l.length := by
  obtain ⟨f, h1, _⟩ := h.get hi
  exact RowE.isSl (TypW.rowP h1)
theorem TypW.snoc {vf : Value} {c : Typ} (hlen : sh.length = l.length) (h : Sep G W (RowE (α := TypS) own T v (sh ++ [⟨vf⟩]) :: Star (FldRows Ti sh l) :: RowE (α := Fld) own Ti vf c.fields :: As) w) : Sep G W (TypW v T Ti (l ++ [c]) :: As) w := by
  have h1 : Sep G W (RowE (α := Fld) own Ti vf c.fields :: Star (FldRows Ti sh l) :: RowE (α := TypS) own T v (sh ++ [⟨vf⟩]) :: As) w := h.sel 3 [2, 1, 0] (Nat.le_add_left _ _) rfl rfl
  have h2 := h1.snocStar
  rw [← FldRows.snoc ⟨vf⟩ c hlen] at h2
  exact TypW.mk (h2.sel 2 [1, 0] (Nat.le_add_left _ _) rfl rfl) (by rw [List.length_append, List.length_append, hlen]; rfl)
theorem TypW.nil (h : Sep G W As w) : Sep G W (TypW (.slice none 0 0) T Ti [] :: As) w := TypW.mk (sh := []) (h.nilStar.rowNil own T) rfl
end
end Go.Proofs.YtlblilbmpdejgaaDoor
