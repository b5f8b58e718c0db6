import Derived.Test.YtojlbibionhdjaaGreatDoorB9
set_option linter.unusedSimpArgs false
set_option linter.unusedVariables false
set_option linter.unusedSectionVars false
set_option linter.deprecated false
set_option maxRecDepth 8000
set_option maxHeartbeats 4000000
open Go.Proofs.Tryz renaming sizeOf64 → kT, underlying26 → lT, isAgg3 → mT, isAgg64 → nT, call13 → oT, underlying41 → pT, sizeOf44 → qT, sizeOf25 → rT, call11 → sT, zeroValue64 → tT, isAgg25 → uT, call16 → vT, call15 → wT, call25 → kR, zeroValue57 → lR, sizeOf57 → mR, results29 → nR, call12 → oR, underlying31 → pR, isAgg44 → qR, underlying23 → rR, zeroValue44 → sR, call29 → tR, underlying39 → uR, underlying35 → vR, call9 → wR, results6 → kY, sizeOf38 → lY, isAgg57 → mY
namespace Go.Proofs.YtojlbibionhdjaaGreatDoor
open Go.Proofs Go.RowKit

theorem Kw {G : Nat → Prop} {W w : World} {Rs : List HP} {vl : Value} {l : List Ev} (hl : RdS W G vl l) {t : Trn} (ot : t.Ok) (hS0 : Sep G W Rs w) (hl9 : l.length ≤ 1000) : Ret Tryz.prog 14 [vl, .agg (t.cells).toArray] w (fun r w' => ∃ (v : Value) (x : List Ev), r = (v : Value) ∧ (x.length ≤ l.length) ∧ (∀ y ∈ x, y ∈ l) ∧ Sep G W ((RowE (α := Ev) (shr G W) 64 v x) :: Rs) w') := by
 have hls : _ * 96 ≤ _ := hl.small
 refine zl (args := [vl, .agg (t.cells).toArray]) Tryz.func14 rfl rfl ?_
 refine za (R0 fun _ => st (zT (v := .agg (t.cells).toArray) rfl ?_))
 intro w3 b2 aX
 have ap := hS0.new aX
 refine st (aS (Iz) (zb (za (R0 fun _ => st (aS (Iz) (zb (za (R0 fun _ => st (zaU rfl ?_)))))))))
 refine st (lD (Iv (t.first)) mT rfl (zd (ap.b0) rfl) (st (mV vl (st (zB (n := l.length) lT rfl hl.sl ?_)))))
 have aY : InR ((l.length + 1 : Nat) : Int) := bo
 refine st (zQ (r := ((l.length + 1 : Nat) : Int)) (k := .i64) (a := ((l.length : Nat) : Int)) (b := 1) rfl rfl (by rw [show (((l.length : Nat) : Int) + 1 : Int) = ((l.length + 1 : Nat) : Int) from bo]; exact zC aY) ?_)
 refine st (cL sT (WY (x := t.first) (n := l.length + 1) ot.first yqi ap) ?_)
 rintro _ w8 ⟨q6, rfl, hq7, aq⟩
 refine st (aS (Iw q6) (zb (za (R0 fun _ => st (zbi rfl (st (lD (Iv (t.most)) mT rfl (zd (aq.b0) rfl) (st (mV vl (st (zB (n := l.length) lT rfl hl.sl ?_)))))))))))
 have ar : InR ((l.length + 1 : Nat) : Int) := bo
 refine st (zQ (r := ((l.length + 1 : Nat) : Int)) (k := .i64) (a := ((l.length : Nat) : Int)) (b := 1) rfl rfl (by rw [show (((l.length : Nat) : Int) + 1 : Int) = ((l.length + 1 : Nat) : Int) from bo]; exact zC ar) ?_)
 refine st (cL sT (WY (x := t.most) (n := l.length + 1) ot.most yqi aq) ?_)
 rintro _ w13 ⟨z, rfl, hq12, P⟩
 refine st (aS (Iw z) (zb (za (R0 fun _ => st (zaf rfl (st (lD (Iv (t.skip)) mT rfl (zd (P.b0) rfl) ?_)))))))
 refine st (cL sT (WY (x := t.skip) (n := 9) ot.skip yqi P) ?_)
 rintro _ w17 ⟨f, rfl, hq16, au⟩
 have av : InR ((1 + f : Nat) : Int) := bo
 refine st (zQ (r := ((1 + f : Nat) : Int)) (k := .i64) (a := 1) (b := ((f : Nat) : Int)) rfl rfl (by rw [show (1 + ((f : Nat) : Int) : Int) = ((1 + f : Nat) : Int) from bo]; exact zC av) (st (aS (Iw (1 + f)) (zb (za (za (zu (by kernel_rfl) (fun _ => (st (mV (Iw q6) (st (aS (Iw q6) (zb (zr ?_))))))))))))))
 have aw : Sep _ _ ((RowE (α := Ev) (shr G W) 64 (Iz) ([] : List Ev)) :: _) _ := au.rowNil (shr G W) 64
 refine zZ (fun mq σ wq => ∃ (k : Nat) (vo : Value) (g : List Ev) (ρ : Env), mq = l.length - k ∧ σ = yc ρ [(0, vl), (3, Ix b2 0), (4, (Iz)), (7, Iw z), (8, Iw (1 + f)), (5, vo), (9, Iw k)] ∧ (k ≤ l.length ∧ g.length ≤ k) ∧ (∀ x ∈ g, x ∈ l) ∧ Sep G W ((RowE (α := Ev) (shr G W) 64 vo g) :: (Blk b2 (t.cells).toArray 38) :: Rs) wq) ⟨q6, (Iz), [], _, rfl, sSf, ⟨by omega, Nat.zero_le _⟩, (fun x h => absurd h List.not_mem_nil), aw⟩ ?_
 rintro m22 σ23 w21 ⟨k, vo, g, ρl1, rfl, rfl, hkk, H, A⟩
 have Q := A.r0
 have hr25s : _ * 96 ≤ _ := Q.2
 refine za (za (zI kr (st (mV (Iw k) (st (mV vl (st (zB (n := l.length) lT rfl hl.sl (st (zL (k := .i64) (a := ((k : Nat) : Int)) (b := ((l.length : Nat) : Int)) rfl rfl (st (mV (.bool (decide (((k : Nat) : Int) < ((l.length : Nat) : Int)))) (stc (V := vo) rfl rfl (fun ay => ?_) ?_)))))))))))))
 have hl27 := tD ay
 exact mV vo ⟨rfl, rfl⟩
 refine stc (V := Iw g.length) rfl rfl (fun R => ?_) ?_
 have hl29 := tD R
 exact zB (n := g.length) lT (if_pos R) Q.1 ⟨rfl, rfl⟩
 refine stc (V := Iw z) rfl rfl (fun az => ?_) ?_
 have hl31 := tD az
 exact mV (Iw z) ⟨rfl, rfl⟩
 refine stc (V := .bool (decide (((g.length : Nat) : Int) < ((z : Nat) : Int)))) rfl rfl (fun I => ?_) ?_
 have hl33 := tD I
 exact zL (k := .i64) (a := ((g.length : Nat) : Int)) (b := ((z : Nat) : Int)) (if_pos I) (if_pos I) ⟨rfl, rfl⟩
 refine st (zD (b := decide (((k : Nat) : Int) < ((l.length : Nat) : Int))) (b' := decide (((g.length : Nat) : Int) < ((z : Nat) : Int))) rfl (fun hbp => (if_pos hbp)) (zb ?_))
 cases J : (decide (((k : Nat) : Int) < ((l.length : Nat) : Int))) && (decide (((g.length : Nat) : Int) < ((z : Nat) : Int)))
 have hc34r := J
 try simp only [zi] at J
 refine zf rfl (ya (zS (za (za (R0 fun _ => st (aS (Iv 0) (zb (zr (zZ (fun mq σ wq => ∃ (e : Nat) (d : List Ev) (ρ : Env), mq = d.length - e ∧ σ = yc ρ [(0, vl), (3, Ix b2 0), (4, (Iz)), (5, vo), (10, Iw e)] ∧ (d.length ≤ l.length) ∧ (∀ x ∈ d, x ∈ l) ∧ Sep G W ((RowE (α := Ev) (shr G W) 64 vo d) :: (Blk b2 (t.cells).toArray 38) :: Rs) wq) ⟨0, g, _, rfl, sSf, by omega, H, A⟩ ?_)))))))))
 rintro m36 σ37 w35 ⟨e, d, ρl2, rfl, rfl, aA, E, B⟩
 have q := B.r0
 have hr39s : _ * 96 ≤ _ := q.2
 refine za (za (zI kr (st (zaZ rfl (st (lD (.bool (t.back)) Tryz.isAgg4 rfl (zd (B.b1) rfl) (st (mV (.bool (t.back)) (stc (V := Iw e) rfl rfl (fun hb40 => ?_) ?_)))))))))
 exact mV (Iw e) ⟨rfl, rfl⟩
 refine stc (V := vo) rfl rfl (fun hb42 => ?_) ?_
 exact mV vo ⟨rfl, rfl⟩
 refine stc (V := Iw d.length) rfl rfl (fun aB => ?_) ?_
 exact zB (n := d.length) lT (if_pos aB) q.1 ⟨rfl, rfl⟩
 refine stc (V := Iw (d.length / 2)) rfl rfl (fun aC => ?_) ?_
 exact QQ (r := ((d.length / 2 : Nat) : Int)) (if_pos aC) rfl (by omega) (by rw [show Int.tdiv (((d.length : Nat) : Int)) (2) = ((d.length / 2 : Nat) : Int) from (Int.ofNat_tdiv _ _).symm]; exact zC (by omega)) ⟨rfl, rfl⟩
 refine stc (V := .bool (decide (((e : Nat) : Int) < ((d.length / 2 : Nat) : Int)))) rfl rfl (fun S => ?_) ?_
 exact zL (k := .i64) (a := ((e : Nat) : Int)) (b := ((d.length / 2 : Nat) : Int)) (if_pos S) (if_pos S) ⟨rfl, rfl⟩
 refine st (zD (b := t.back) (b' := decide (((e : Nat) : Int) < ((d.length / 2 : Nat) : Int))) rfl (fun hbp => (if_pos hbp)) (zb ?_))
 cases K : t.back && (decide (((e : Nat) : Int) < ((d.length / 2 : Nat) : Int)))
 have hc50r := K
 try simp only [zi] at K
 refine zf rfl (ya (zS (za (R0 fun _ => st (mV vo (st (aS vo (zb (zo (zR Tryz.results14 (show _ = (vo : Value) from rfl) ?_))))))))))
 refine ⟨vo, d, rfl, ?_, ?_, (B.s2_a)⟩
 exact aA
 exact E
 try simp only [zi] at K
 refine zh rfl (zp (za (zr (za (R0 fun _ => st (mV vo (st (zB (n := d.length) lT rfl q.1 ?_))))))))
 have aD : InR ((d.length - 1 : Nat) : Int) := bo
 refine st (YC (r := ((d.length - 1 : Nat) : Int)) (k := .i64) (a := ((d.length : Nat) : Int)) (b := 1) rfl rfl (by rw [show (((d.length : Nat) : Int) - 1 : Int) = ((d.length - 1 : Nat) : Int) from bo]; exact zC aD) (st (mV (Iw e) ?_)))
 have aE : InR (((d.length - 1) - e : Nat) : Int) := bo
 refine st (YC (r := (((d.length - 1) - e : Nat) : Int)) (k := .i64) (a := ((d.length - 1 : Nat) : Int)) (b := ((e : Nat) : Int)) rfl rfl (by rw [show (((d.length - 1 : Nat) : Int) - ((e : Nat) : Int) : Int) = (((d.length - 1) - e : Nat) : Int) from bo]; exact zC aE) (st (aS (Iw ((d.length - 1) - e)) (zb (za (zu (by kernel_rfl) (fun _ => (st (mV vo (st (mV (Iw e) ?_)))))))))))
 have aF : e < d.length := bo
 refine st (ze (k := 10) (i := e) lT kT rfl q.1 rfl aF ?_)
 have aG : e < d.length := bo
 obtain ⟨_, _, aj, m, rfl, s, T⟩ := B.rowAtD (i := 0) (j := e) rfl aG
 refine st (zg (k := 10) nT kT rfl rfl aj (st (zH tT ?_)))
 intro w59 b58 aH
 have U := B.new aH
 refine stn (zF (v := .agg ((d.getD e default).cells m).toArray) (c' := ((d.getD e default).cells m).toArray) kT rfl rfl (U.b0) (yg ⟨rfl, rfl, rfl, s.sl.one, rfl, rfl, rfl, rfl, rfl, rfl, trivial⟩) yqc rfl ?_)
 intro w61 aI
 have X := U.pt0 aI
 refine zb (za (R0 fun _ => st (mV vo (st (mV (Iw e) (st (mV vo (st (mV (Iw ((d.length - 1) - e)) ?_)))))))))
 have aJ : (d.length - 1) - e < d.length := bo
 refine st (ze (k := 10) (i := (d.length - 1) - e) lT kT rfl q.1 rfl aJ ?_)
 have aK : (d.length - 1) - e < d.length := bo
 obtain ⟨_, _, ak, p, rfl, C, Y⟩ := X.rowAtD (i := 1) (j := (d.length - 1) - e) rfl aK
 refine st (zg (k := 10) nT kT rfl rfl ak ?_)
 have aL : e < d.length := bo
 refine st (ze (k := 10) (i := e) lT kT rfl q.1 rfl aL ?_)
 refine stn (xb (α := Ev) (j := e) (o := 0) (u := .agg ((d.getD ((d.length - 1) - e) default).cells p).toArray) (us := (d.getD ((d.length - 1) - e) default).cells p) (x1 := (d.getD ((d.length - 1) - e) default)) ((X.mv1).emp1) kT bo rfl rfl rfl (Nat.le_of_ble_eq_true rfl) (yg ⟨rfl, rfl, rfl, C.sl.one, rfl, rfl, rfl, rfl, rfl, rfl, trivial⟩) (fun _ _ F hel _ => (by have Z := Src.len _ hel; have e0 : F.take 0 ++ ((d.getD ((d.length - 1) - e) default).cells p) ++ F.drop (0 + ((d.getD ((d.length - 1) - e) default).cells p).length) = ((d.getD ((d.length - 1) - e) default).cells p) := (by rw [List.drop_eq_nil_of_le (by rw [Z]; exact Nat.le_of_ble_eq_true rfl)]; simp); rw [e0]; exact (show _ from ⟨_, rfl, C, Y⟩))) ?_)
 intro w68 L
 have aa := L.r0
 have hr72s : _ * 96 ≤ _ := aa.2
 refine zb (R0 fun _ => st (mV vo (st (mV (Iw ((d.length - 1) - e)) (st (zg (k := 10) nT kT rfl rfl (CellsAt.all (L.b1)) ?_))))))
 have aN : (d.length - 1) - e < (d.set e (d.getD ((d.length - 1) - e) default)).length := bo
 refine st (ze (k := 10) (i := (d.length - 1) - e) lT kT rfl aa.1 rfl aN ?_)
 refine stn (xb (α := Ev) (j := (d.length - 1) - e) (o := 0) (u := .agg ((d.getD e default).cells m).toArray) (us := (d.getD e default).cells m) (x1 := (d.getD e default)) (L.emp1) kT bo rfl rfl rfl (Nat.le_of_ble_eq_true rfl) (yg ⟨rfl, rfl, rfl, s.sl.one, rfl, rfl, rfl, rfl, rfl, rfl, trivial⟩) (fun _ _ F hel _ => (by have Z := Src.len _ hel; have e0 : F.take 0 ++ ((d.getD e default).cells m) ++ F.drop (0 + ((d.getD e default).cells m).length) = ((d.getD e default).cells m) := (by rw [List.drop_eq_nil_of_le (by rw [Z]; exact Nat.le_of_ble_eq_true rfl)]; simp); rw [e0]; exact (show _ from ⟨_, rfl, s, T⟩))) ?_)
 intro w74 ab
 have aO := ab.r0
 have hr77s : _ * 96 ≤ _ := aO.2
 refine zb (R0 fun _ => st (mV (Iw e) ?_))
 have aP : InR ((e + 1 : Nat) : Int) := bo
 refine st (zQ (r := ((e + 1 : Nat) : Int)) (k := .i64) (a := ((e : Nat) : Int)) (b := 1) rfl rfl (by rw [show (((e : Nat) : Int) + 1 : Int) = ((e + 1 : Nat) : Int) from bo]; exact zC aP) (st (aS (Iw (e + 1)) (zb ?_))))
 exact ⟨_, by simp only [List.length_set]; omega, e + 1, ((d.set e (d.getD ((d.length - 1) - e) default)).set ((d.length - 1) - e) (d.getD e default)), _, rfl, sSf, by simp only [List.length_set]; omega, (UH (UH E (E _ (WX (by omega)))) (E _ (WX (by omega)))), (ab.s3_ac)⟩
 try simp only [zi] at J
 refine zh rfl (zp (za (zr (za (zI kr (st (mV (Iw (1 + f)) (st (zL (k := .i64) (a := ((1 + f : Nat) : Int)) (b := 3) rfl rfl (st (mV (.bool (decide (((1 + f : Nat) : Int) < 3))) (stc (V := Iw k) rfl rfl (fun aQ => ?_) ?_))))))))))))
 have hl81 := fD aQ
 exact mV (Iw k) ⟨rfl, rfl⟩
 refine stc (V := Iw (1 + f)) rfl rfl (fun aR => ?_) ?_
 have hl83 := fD aR
 exact mV (Iw (1 + f)) ⟨rfl, rfl⟩
 refine stc (V := Iw (k % (1 + f))) rfl rfl (fun M => ?_) ?_
 have hl85 := fD M
 have aT : (0 : Int) < ((1 + f : Nat) : Int) := by omega
 have h086m : k % (1 + f) < (1 + f) := Nat.mod_lt _ om
 exact Kx (r := ((k % (1 + f) : Nat) : Int)) (if_pos M) (if_pos M) aT (Int.ofNat_tmod _ _).symm ⟨rfl, rfl⟩
 refine stc (V := .bool (!decide (((k % (1 + f) : Nat) : Int) = 1))) rfl rfl (fun ac => ?_) ?_
 have hl88 := fD ac
 exact yu (k := .i64) (a := ((k % (1 + f) : Nat) : Int)) (b := 1) (if_pos ac) rfl ⟨rfl, rfl⟩
 refine st (zy (b := decide (((1 + f : Nat) : Int) < 3)) (b' := !decide (((k % (1 + f) : Nat) : Int) = 1)) rfl (fun hbp => (if_pos hbp)) (zb ?_))
 cases N : (decide (((1 + f : Nat) : Int) < 3)) || (!decide (((k % (1 + f) : Nat) : Int) = 1))
 have hc89r := N
 try simp only [zi] at N
 refine zf rfl (zp (R0 fun _ => st (mV (Iw k) ?_)))
 have aU : InR ((k + 1 : Nat) : Int) := bo
 refine st (zQ (r := ((k + 1 : Nat) : Int)) (k := .i64) (a := ((k : Nat) : Int)) (b := 1) rfl rfl (by rw [show (((k : Nat) : Int) + 1 : Int) = ((k + 1 : Nat) : Int) from bo]; exact zC aU) (st (aS (Iw (k + 1)) (zb ?_))))
 exact ⟨_, by omega, k + 1, vo, g, _, rfl, sSf, ⟨by omega, by omega⟩, H, A⟩
 try simp only [zi] at N
 refine zh rfl (R0 fun _ => st (mV vo (st (mV vl (st (mV (Iw k) ?_))))))
 have aV : k < l.length := bo
 refine st (ze (k := 10) (i := k) lT kT rfl hl.sl rfl aV ?_)
 have ad : k < l.length := bo
 obtain ⟨al, D, ae⟩ := hl.evD ad
 have hsm94 : ((l.getD k default).deps).length * 8 ≤ 140737488355328 := D.small
 have am := A.cells al (hl.foot (ne_of_lt ad))
 refine st (zg (k := 10) nT kT rfl rfl am (st (zJ (k := 10) (parts' := [(0, .agg ((l.getD k default).cells (zG W (sb vl) (so vl + k * 10 + 3))).toArray)]) (c := ((l.getD k default).cells (zG W (sb vl) (so vl + k * 10 + 3))).toArray) lT kT tT dc rfl kr ?_)))
 intro w98 b97 aW
 have af := A.new aW
 have ag := af.b0
 refine st (yx (src := (shr G W)) (bytes := 96) (x1 := (l.getD k default)) ((af.s3_bc).emp1) UV rfl rfl ag (fun _ _ _ => (show _ from ⟨_, rfl, D, ae⟩)) yqb rfl ?_)
 intro ah w100 O
 have an := O.r0
 have hr106s : _ * 96 ≤ _ := an.2
 refine st (aS ah (zb (R0 fun _ => st (mV (Iw k) ?_))))
 have ao : InR ((k + 1 : Nat) : Int) := bo
 refine st (zQ (r := ((k + 1 : Nat) : Int)) (k := .i64) (a := ((k : Nat) : Int)) (b := 1) rfl rfl (by rw [show (((k : Nat) : Int) + 1 : Int) = ((k + 1 : Nat) : Int) from bo]; exact zC ao) (st (aS (Iw (k + 1)) (zb ?_))))
 exact ⟨_, by omega, k + 1, ah, (g ++ [(l.getD k default)]), _, rfl, sSf, ⟨by omega, by rw [List.length_append, List.length_singleton]; omega⟩, (Kj H (WX (by omega))), O⟩

theorem zaD {P : Program} {d : Option Tmp} {ty : TypeId} {pos : String} {af : Array Edge} {g : Option (Nat × Bool)} {σ : Env} {w : World} {K : Value → World → Prop} {x y : Operand} {t t2 : TypeId} {k yk : IntKind} {a b r : Int} (hx : ev σ x = .int k a) (hy : ev σ y = .int yk b) (h0 : 0 ≤ b) (h1 : b ≤ k.bits) (hr : k.wrap (a * 2 ^ b.toNat) = r) (h : K (.int k r) w) : opV P ⟨d, .binOp .shl t x y t2, ty, pos, af, g⟩ σ w K :=
  zM (v := .int k r) (w' := w) (by subst hr; simp [execOp, hx, hy, eqGuard, binOp, shift_shl k yk a b h0 h1, go_sem]) h
def dC : Dcl := ⟨[⟨[⟨1, 1, false, []⟩]⟩], [⟨0, 0, 1, 0, 2⟩]⟩
def fiv : List Ev := [⟨0, 1, 1, [0], 0, 0, 0, 1, 1, 0⟩, ⟨0, 2, 2, [1], 0, 0, 0, 1, 2, 0⟩, ⟨0, 3, 3, [2], 0, 0, 0, 1, 4, 0⟩, ⟨0, 4, 4, [3], 0, 0, 0, 1, 8, 0⟩, ⟨0, 5, 5, [4], 0, 0, 0, 1, 16, 0⟩]
theorem Yr {P : Nat → Prop} (h0 : P 0) (h1 : P 1) (h2 : P 2) (h3 : P 3) (h4 : P 4) {k : Nat} (h : k < 5) : P k := by
  match k, h with
  | 0, _ => exact h0
  | 1, _ => exact h1
  | 2, _ => exact h2
  | 3, _ => exact h3
  | 4, _ => exact h4
theorem zan {k : Nat} (h : k < 5) : InR ((2 ^ k : Nat) : Int) := Yr (P := fun k => InR ((2 ^ k : Nat) : Int)) (by decide) (by decide) (by decide) (by decide) (by decide) h
theorem zaW {k : Nat} (h : k < 5) : IntKind.i64.wrap (1 * 2 ^ ((k : Nat) : Int).toNat) = ((2 ^ k : Nat) : Int) := Yr (P := fun k => IntKind.i64.wrap (1 * 2 ^ ((k : Nat) : Int).toNat) = ((2 ^ k : Nat) : Int)) rfl rfl rfl rfl rfl h
theorem We {k : Nat} (h : k < 5) (d : Value) : (fiv.getD k default).cells d = [.int .i64 0, .int .i64 ((k + 1 : Nat) : Int), .int .i64 ((k + 1 : Nat) : Int), d, .int .i64 0, .int .i64 0, .int .i64 0, .int .i64 1, .int .i64 ((2 ^ k : Nat) : Int), .int .i64 0] := Yr (P := fun k => (fiv.getD k default).cells d = [.int .i64 0, .int .i64 ((k + 1 : Nat) : Int), .int .i64 ((k + 1 : Nat) : Int), d, .int .i64 0, .int .i64 0, .int .i64 0, .int .i64 1, .int .i64 ((2 ^ k : Nat) : Int), .int .i64 0]) rfl rfl rfl rfl rfl h
theorem zai {k : Nat} (h : k < 5) : (fiv.getD k default).Ok := Yr (P := fun k => (fiv.getD k default).Ok) (by constructor <;> decide) (by constructor <;> decide) (by constructor <;> decide) (by constructor <;> decide) (by constructor <;> decide) h
theorem Kg {k : Nat} (h : k < 5) : [((k : Nat) : Int)] = (fiv.getD k default).deps := Yr (P := fun k => [((k : Nat) : Int)] = (fiv.getD k default).deps) rfl rfl rfl rfl rfl h
instance (a b : Ev) : Decidable (xM a b) := inferInstanceAs (Decidable (_ ∧ _))
instance (l m : List Ev) : Decidable (VK l m) := inferInstanceAs (Decidable (∀ a ∈ l, ∀ b ∈ m, xM a b → a = b))
theorem Xw : DclOk dC := by
  have one : ∀ {P : Nat → Prop}, P 0 → ∀ i, i < 1 → P i := fun {P} h i hi => (show i = 0 by omega) ▸ h
  refine ⟨Nat.le_refl 1, (by show 1 ≤ 8; decide), one (P := fun i => TypOk (dC.types.getD i default)) ?_⟩
  refine ⟨Nat.le_refl 1, (by show 1 ≤ 8; decide), ?_, ?_, ?_, ?_⟩
  · intro i hi; obtain rfl : i = 0 := by have : i < 1 := hi; omega
    exact ⟨(by decide : (1 : Int) ≤ 1), (by decide : (1 : Int) ≤ 4)⟩
  · intro i hi h; obtain rfl : i = 0 := by have : i < 1 := hi; omega
    cases h
  · intro i hi; obtain rfl : i = 0 := by have : i < 1 := hi; omega
    exact ⟨fun h => absurd h (by show ¬ (1 : Int) = 4; decide), Nat.zero_le _⟩
  · intro i hi j hj; obtain rfl : i = 0 := by have : i < 1 := hi; omega
    exact absurd hj (Nat.not_lt_zero j)
theorem Yv : Xo dC := ⟨by decide, fun i hi => (show i = 0 by have : i < 1 := hi; omega) ▸ ⟨by decide, ⟨by decide, by decide⟩, by decide, by decide⟩⟩
theorem zap {G : Nat → Prop} {W w : World} {Rs : List HP}  (hS0 : Sep G W Rs w) : Ret Tryz.prog 30 [] w (fun r w' => ∃ (v : Value), r = (v : Value) ∧ Sep G W ((RowE (α := Ev) own 64 v fiv) :: Rs) w') := by
 refine zl (args := []) Tryz.func30 rfl rfl ?_
 refine za (R0 fun _ => st (aS (Iz) (zb (za (R0 fun _ => st (aS (Iz) (zb (za (za (R0 fun _ => st (aS (Iv 0) (zb (zr ?_)))))))))))))
 have z : Sep G W ((RowE (α := Ev) own 64 (Iz) ([] : List Ev)) :: Rs) w := hS0.rowNil own 64
 refine zZ (fun mq σ F => ∃ (k : Nat) (vo : Value) (ρ : Env), mq = 5 - k ∧ σ = yc ρ [(0, (Iz)), (2, Iw k), (1, vo)] ∧ (k ≤ 5) ∧ Sep G W ((RowE (α := Ev) own 64 vo (fiv.take k)) :: Rs) F) ⟨0, (Iz), _, rfl, sSf, Nat.zero_le _, z⟩ ?_
 rintro m3 σ4 w2 ⟨k, vo, ρl1, rfl, rfl, hkk, h⟩
 have A := h.r0
 have hr6s : _ * 96 ≤ _ := A.2
 refine za (za (R0 fun _ => st (mV (Iw k) (st (zL (k := .i64) (a := ((k : Nat) : Int)) (b := 5) rfl rfl (zb ?_))))))
 cases g : decide (((k : Nat) : Int) < 5)
 have g := fD g
 have B : k = 5 := by omega
 subst B
 refine zf rfl (ya (zS (za (R0 fun _ => st (mV vo (st (aS vo (zb (zo (zR Tryz.results30 (show _ = (vo : Value) from rfl) ?_))))))))))
 refine ⟨vo, rfl, h⟩
 have g := tD g
 refine zh rfl (zp (za (zr (R0 fun _ => st (mV vo (st (mV (Iw k) ?_)))))))
 have C : InR ((k + 1 : Nat) : Int) := bo
 refine st (zQ (r := ((k + 1 : Nat) : Int)) (k := .i64) (a := ((k : Nat) : Int)) (b := 1) rfl rfl (by rw [show (((k : Nat) : Int) + 1 : Int) = ((k + 1 : Nat) : Int) from bo]; exact zC C) ?_)
 refine st (zU (parts' := [(1, Iw (k + 1))]) (v := .agg #[Iv 0, Iw (k + 1)]) rfl (by first | (rw [We (by omega)]; simp [Instr.build, Instr.fill, go_sem]) | simp [Instr.build, Instr.fill, go_sem]) (st (mV (Iw k) ?_)))
 have D : InR ((k + 1 : Nat) : Int) := bo
 refine st (zQ (r := ((k + 1 : Nat) : Int)) (k := .i64) (a := ((k : Nat) : Int)) (b := 1) rfl rfl (by rw [show (((k : Nat) : Int) + 1 : Int) = ((k + 1 : Nat) : Int) from bo]; exact zC D) (st (mV (Iw k) (st (zJ (k := 1) (parts' := [(0, Iw k)]) (c := #[Iw k]) Tryz.underlying62 Tryz.sizeOf3 Tryz.zeroValue3 (by decide) rfl (by kernel_rfl) ?_)))))
 intro E d o
 refine st (mV (Iw k) (st (Ua (k := .i64) (k2 := .u64) (a := ((k : Nat) : Int)) (r := ((k : Nat) : Int)) (by rw [Tryz.underlying3]; rfl) Tryz.underlying110 rfl (VJ ⟨by omega, by omega⟩) ?_)))
 have hpw14 := zan (k := k) om
 refine st (zaD (k := .i64) (yk := .u64) (a := 1) (b := ((k : Nat) : Int)) (r := ((2 ^ k : Nat) : Int)) rfl rfl om (show ((k : Nat) : Int) ≤ 64 by omega) (zaW om) ?_)
 refine st (zU (parts' := [(0, .agg #[Iv 0, Iw (k + 1)]), (1, Iw (k + 1)), (2, (Iy d 1 1)), (6, Iv 1), (7, Iv (((2 ^ k : Nat) : Int)))]) (v := .agg ((fiv.getD k default).cells (Iy d 1 1)).toArray) rfl (by first | (rw [We (by omega)]; simp [Instr.build, Instr.fill, go_sem]) | simp [Instr.build, Instr.fill, go_sem]) ?_)
 have e : Sep _ _ ((RowE (α := Int) own 3 (Iy d 1 1) [((k : Nat) : Int)]) :: _) _ := Sep.blkRow (src := own) (l := [((k : Nat) : Int)]) (css := [[Iw k]]) (h.new o) rfl ⟨fun _ _ => ⟨rfl, (by omega)⟩, trivial⟩ yqa (show 1 ≤ maxLen by decide)
 have p := e.r0
 have hr16s : _ * 8 ≤ _ := p.2
 have q := Kg (k := k) om
 rw [q] at e
 have i : Sep G W ((RowE (α := Int) own 3 (Iy d 1 1) ((fiv.getD k default).deps)) :: (RowE (α := Ev) own 64 vo (fiv.take k)) :: Rs) E := e
 have s := i.r0
 have hr18s : _ * 8 ≤ _ := s.2
 refine st (zJ (k := 10) (parts' := [(0, .agg ((fiv.getD k default).cells (Iy d 1 1)).toArray)]) (c := ((fiv.getD k default).cells (Iy d 1 1)).toArray) lT kT tT dc rfl kr ?_)
 intro w21 b20 t
 have j := i.new t
 have m := j.b0
 refine st (yx (src := own) (bytes := 96) (x1 := (fiv.getD k default)) (j.s3_cb) UV rfl rfl m (fun _ _ H => ⟨_, rfl, RowE.soft H, (zai (by omega))⟩) yqb rfl ?_)
 intro n w23 f
 have u := f.r0
 have hr28s : _ * 96 ≤ _ := u.2
 refine st (aS n (zb (R0 fun _ => st (mV (Iw k) ?_))))
 have x : InR ((k + 1 : Nat) : Int) := bo
 refine st (zQ (r := ((k + 1 : Nat) : Int)) (k := .i64) (a := ((k : Nat) : Int)) (b := 1) rfl rfl (by rw [show (((k : Nat) : Int) + 1 : Int) = ((k + 1 : Nat) : Int) from bo]; exact zC x) (st (aS (Iw (k + 1)) (zb ?_))))
 have y : (fiv.take (k + 1)) = (fiv.take k) ++ [(fiv.getD k default)] := (List.take_getD (show k < 5 by omega))
 rw [← y] at f
 exact ⟨_, by omega, k + 1, n, _, rfl, sSf, by omega, f⟩

theorem zaO {x y : Operand} {a0 a1 a2 b0 b1 b2 : Int} : ∀ w, (do eqGuard .neq 44 x y (.agg #[.int .i64 a0, .int .i64 a1, .int .i64 a2]) (.agg #[.int .i64 b0, .int .i64 b1, .int .i64 b2]); binOp .neq 44 (.agg #[.int .i64 a0, .int .i64 a1, .int .i64 a2]) (.agg #[.int .i64 b0, .int .i64 b1, .int .i64 b2]) : Sem Value).run Tryz.prog w = .ok (.bool (!decide (a0 = b0 ∧ a1 = b1 ∧ a2 = b2))) w := by
  intro w
  have h : ∀ w, (Op.equal 44 (.agg #[.int .i64 a0, .int .i64 a1, .int .i64 a2]) (.agg #[.int .i64 b0, .int .i64 b1, .int .i64 b2])).run Tryz.prog w = .ok (decide (a0 = b0 ∧ a1 = b1 ∧ a2 = b2)) w := by
    intro w
    rw [show decide (a0 = b0 ∧ a1 = b1 ∧ a2 = b2) = (a0 == b0 && a1 == b1 && a2 == b2) by by_cases h1 : a0 = b0 <;> by_cases h2 : a1 = b1 <;> by_cases h3 : a2 = b2 <;> simp [h1, h2, h3]]; unfold Op.equal Op.maxDepth; simp [go_sem]; by_cases h1 : a0 = b0 <;> by_cases h2 : a1 = b1 <;> by_cases h3 : a2 = b2 <;> simp [h1, h2, h3]
  simp [eqGuard, binOp, h, go_sem]
theorem Xf {G : Nat → Prop} {W w : World} {Rs : List HP} {va : Value} {a : List Row} (ha : RdS W G va a) {vb : Value} {b : List Row} (hb : RdS W G vb b) (hS0 : Sep G W Rs w) : Ret Tryz.prog 29 [va, vb] w (fun r w' => r = (.bool (decide (a = b)) : Value) ∧ Sep G W Rs w') := by
 have has : _ * 24 ≤ _ := ha.small
 have hbs : _ * 24 ≤ _ := hb.small
 refine zl (args := [va, vb]) Tryz.func29 rfl rfl ?_
 refine za (R0 fun _ => st (aS (.bool false) (zb (za (za (R0 fun _ => st (mV va (st (zB (n := a.length) pT rfl ha.sl (st (mV vb (st (zB (n := b.length) pT rfl hb.sl (st (yu (k := .i64) (a := ((a.length : Nat) : Int)) (b := ((b.length : Nat) : Int)) rfl rfl (zb ?_))))))))))))))))
 cases g : !decide (((a.length : Nat) : Int) = ((b.length : Nat) : Int))
 have g := zA g
 refine zf rfl (zp (za (za (R0 fun _ => st (aS (Iv 0) (zb (zr (zZ (fun mq σ J => ∃ (k : Nat) (ρ : Env), mq = a.length - k ∧ σ = yc ρ [(0, va), (1, vb), (5, Iw k)] ∧ (k ≤ a.length) ∧ (∀ i, i < k → a.getD i default = b.getD i default) ∧ Sep G W Rs J) ⟨0, _, rfl, sSf, Nat.zero_le _, (fun i h => absurd h (Nat.not_lt_zero i)), hS0⟩ ?_))))))))
 rintro m3 σ4 w2 ⟨k, ρl1, rfl, rfl, hkk, hm, I⟩
 refine za (za (R0 fun _ => st (mV (Iw k) (st (mV va (st (zB (n := a.length) pT rfl ha.sl (st (zL (k := .i64) (a := ((k : Nat) : Int)) (b := ((a.length : Nat) : Int)) rfl rfl (zb ?_))))))))))
 cases m : decide (((k : Nat) : Int) < ((a.length : Nat) : Int))
 have m := fD m
 refine zf rfl (ya (zS (za (R0 fun _ => st (aS (.bool true) (zb (zo (zR nR (show _ = (.bool true : Value) from rfl) ?_))))))))
 refine ⟨?_, I⟩
 rw [decide_eq_true (Ye (by omega) (fun i hi => hm i (by omega)))]
 have m := tD m
 refine zh rfl (zp (za (zr (za ?_))))
 refine WD4 (WF [fun vals J => Sep G W Rs J]) (AF [Vl 0 (va), Vl 1 (Iw k), Vl 2 (Ix (sb va) (so va + k * 3)), Vl 3 (.agg ((a.getD k default).cells).toArray), Vl 4 (vb), Vl 5 (Iw k), Vl 6 (Ix (sb vb) (so vb + k * 3)), Vl 7 (.agg ((b.getD k default).cells).toArray), Vl 8 (.bool (!decide ((a.getD k default).group = (b.getD k default).group ∧ (a.getD k default).value = (b.getD k default).value ∧ (a.getD k default).count = (b.getD k default).count)))]) [[], [], [0, 1], [0, 1, 2], [], [], [4, 5], [4, 5, 6], (rg 8)] [] [(0, 0), (0, 0), (0, 0), (0, 0), (0, 0), (0, 0), (0, 0), (0, 0), (0, 0)] I ⟨fun _ _ _ _ _ _ _ => obl rfl (mV va dR), fun _ _ _ _ _ _ _ => obl rfl (mV (Iw k) dR), ?_, ?_, fun _ _ _ _ _ _ _ => obl rfl (mV vb dR), fun _ _ _ _ _ _ _ => obl rfl (mV (Iw k) dR), ?_, ?_, ob1 0 fun _ _ _ o => obl rfl (Yp (e := decide ((a.getD k default).group = (b.getD k default).group ∧ (a.getD k default).value = (b.getD k default).value ∧ (a.getD k default).count = (b.getD k default).count)) (xs := #[Iv ((a.getD k default).group), Iv ((a.getD k default).value), Iv ((a.getD k default).count)]) (ys := #[Iv ((b.getD k default).group), Iv ((b.getD k default).value), Iv ((b.getD k default).count)]) zaO (o 3 dc) (o 7 dc) dR), trivial⟩ ?_
 refine ob1 0 fun _ _ _ u => (obl rfl ?_)
 have y : k < a.length := bo
 exact ze (k := 3) (i := k) pT qT (u 0 dc) ha.sl (u 1 dc) y dR
 refine ob1 0 fun _ _ (z : Sep _ _ _ _) A => (obl rfl ?_)
 have d : k < a.length := bo
 obtain ⟨j, s⟩ := ha.row d
 rw [← zx default d] at j s
 have v := z.cells j (ha.foot (ne_of_lt d))
 exact zg (k := 3) qR qT rfl (A 2 dc) v dR
 refine ob1 0 fun _ _ _ p => (obl rfl ?_)
 have B : k < b.length := bo
 exact ze (k := 3) (i := k) pT qT (p 4 dc) hb.sl (p 5 dc) B dR
 refine ob1 0 fun _ _ (C : Sep _ _ _ _) D => (obl rfl ?_)
 have f : k < b.length := bo
 obtain ⟨l, t⟩ := hb.row f
 rw [← zx default f] at l t
 have x := C.cells l (hb.foot (ne_of_lt f))
 exact zg (k := 3) qR qT rfl (D 6 dc) x dR
 intro vals w157 E F
 have q : Sep _ _ _ _ := E
 have K := F 8 dc
 refine zX (kv := [(0, va), (1, vb), (5, Iw k), (11, Iw k), (12, va), (13, Iw a.length), (14, .bool true), (25, .bool (!decide ((a.getD k default).group = (b.getD k default).group ∧ (a.getD k default).value = (b.getD k default).value ∧ (a.getD k default).count = (b.getD k default).count)))]) ⟨rfl, rfl, rfl, rfl, rfl, rfl, rfl, (by exact K), trivial⟩ (fun ρw157 => (zb ?_))
 cases c : !decide ((a.getD k default).group = (b.getD k default).group ∧ (a.getD k default).value = (b.getD k default).value ∧ (a.getD k default).count = (b.getD k default).count)
 have c := zA c
 refine zf rfl (zp (R0 fun _ => st (mV (Iw k) ?_)))
 have H : InR ((k + 1 : Nat) : Int) := bo
 refine st (zQ (r := ((k + 1 : Nat) : Int)) (k := .i64) (a := ((k : Nat) : Int)) (b := 1) rfl rfl (by rw [show (((k : Nat) : Int) + 1 : Int) = ((k + 1 : Nat) : Int) from bo]; exact zC H) (st (aS (Iw (k + 1)) (zb ?_))))
 exact ⟨_, by omega, k + 1, _, rfl, sSf, by omega, (yP hm (Row.eq_iff.2 c)), q⟩
 have c := zV c
 refine zh rfl (za (R0 fun _ => st (aS (.bool false) (zb (zo (zR nR (show _ = (.bool false : Value) from rfl) ?_))))))
 refine ⟨?_, q⟩
 rw [decide_eq_false (fun e => by subst e; first | omega | (simp at c))]
 have g := zV g
 refine zh rfl (za (R0 fun _ => st (aS (.bool false) (zb (zo (zR nR (show _ = (.bool false : Value) from rfl) ?_))))))
 refine ⟨?_, hS0⟩
 rw [decide_eq_false (fun e => by subst e; first | omega | (simp at g))]

theorem Qm {G : Nat → Prop} {W w : World} {Rs : List HP}  (hS0 : Sep G W Rs w) : Ret Tryz.prog 31 [] w (fun r w' => ∃ (bt : Nat) (bf : Nat) (bp : Nat), r = (.agg #[(.slice (some ⟨bt, 0, none⟩) 1 1), (.slice (some ⟨bp, 0, none⟩) 1 1)] : Value) ∧ Sep G W ((Blk bt #[(.slice (some ⟨bf, 0, none⟩) 1 1)] 84) :: (Blk bf #[.int .i64 (1), .int .i64 (1), .bool false, .slice none 0 0] 88) :: (Blk bp #[.int .i64 (0), .int .i64 (0), .int .i64 (1), .int .i64 (0), .int .i64 (2)] 46) :: Rs) w') := by
 refine zl (args := []) Tryz.func31 rfl rfl ?_
 refine za (R0 fun _ => st (zH Tryz.zeroValue25 ?_))
 intro w3 b2 j
 refine zb (za (zu (by kernel_rfl) (fun _ => (st (zU (parts' := [(0, Iv 1), (1, Iv 1)]) (v := .agg #[Iv 1, Iv 1, .bool false, (Iz)]) rfl yqh (st (zJ (k := 4) (parts' := [(0, .agg #[Iv 1, Iv 1, .bool false, (Iz)])]) (c := #[Iv 1, Iv 1, .bool false, (Iz)]) Tryz.underlying82 Tryz.sizeOf88 Tryz.zeroValue88 (by decide) rfl (by kernel_rfl) ?_)))))))
 intro w7 e l
 refine st (zU (parts' := [(0, (Iy e 1 1))]) (v := .agg #[(Iy e 1 1)]) rfl yqh (st (zJ (k := 1) (parts' := [(0, .agg #[(Iy e 1 1)])]) (c := #[(Iy e 1 1)]) Tryz.underlying22 Tryz.sizeOf84 Tryz.zeroValue84 (by decide) rfl (by kernel_rfl) ?_)))
 intro w11 a m
 refine st (zU (parts' := [(2, Iv 1), (4, Iv 2)]) (v := .agg #[Iv 0, Iv 0, Iv 1, Iv 0, Iv 2]) rfl yqh (st (zJ (k := 5) (parts' := [(0, .agg #[Iv 0, Iv 0, Iv 1, Iv 0, Iv 2])]) (c := #[Iv 0, Iv 0, Iv 1, Iv 0, Iv 2]) rR Tryz.sizeOf46 Tryz.zeroValue46 (by decide) rfl (by kernel_rfl) ?_)))
 intro w15 d h
 have f := (((hS0.new j).new l).new m).new h
 refine st (zU (parts' := [(0, (Iy a 1 1)), (1, (Iy d 1 1))]) (v := .agg #[(Iy a 1 1), (Iy d 1 1)]) rfl yqh (stn (zF (v := .agg #[(Iy a 1 1), (Iy d 1 1)]) (c' := #[(Iy a 1 1), (Iy d 1 1)]) rT rfl rfl (f.b3) (yg ⟨rfl, rfl, trivial⟩) yqc rfl ?_)))
 intro w17 i
 have g := f.pt3 i
 refine zb (zo (Uj (b := b2) Tryz.results31 uT rT rfl rfl (CellsAt.all (g.b3)) ?_))
 refine ⟨a, e, d, rfl, (g.s4_bca)⟩

set_option maxHeartbeats 8000000 in
set_option maxRecDepth 20000 in
theorem Wa {G : Nat → Prop} {W w : World} {Rs : List HP} (hKN : RdS W G (.slice (some ⟨0, 0, none⟩) 6 6) kindsL) (hS0 : Sep G W Rs w) : Ret Tryz.prog 9 [] w (fun r w' => r = (.bool true : Value) ∧ Sep G W Rs w') := by
 have hKNs : _ * 8 ≤ _ := hKN.small
 refine zl (args := []) Tryz.func9 rfl rfl ?_
 refine za ?_
 refine zu (by kernel_rfl) (fun _ => ?_)
 refine st (zv (v := .bool false) rfl ?_)
 refine zb ?_
 refine za ?_
 refine zu (by kernel_rfl) (fun _ => ?_)
 refine st (zK (f := 31) (vals := []) (cap := []) rfl rfl Tryz.call31 (Qm  hS0) ?_)
 rintro _ w4 ⟨bt1, bf2, bp3, rfl, hS5⟩
 have hS6 := hS5.mv1
 have hS7 : Sep G W ((RowE (α := Fld) (shr G W) 88 (.slice (some ⟨bf2, 0, none⟩) 1 1) [(⟨1, 1, false, []⟩ : Fld)]) :: (Blk bt1 #[(.slice (some ⟨bf2, 0, none⟩) 1 1)] 84) :: (Blk bp3 #[.int .i64 (0), .int .i64 (0), .int .i64 (1), .int .i64 (0), .int .i64 (2)] 46) :: Rs) w4 := Sep.blkRow (src := (shr G W)) (l := [(⟨1, 1, false, []⟩ : Fld)]) (css := [(⟨1, 1, false, []⟩ : Fld).cells (.slice none 0 0)]) hS6 rfl ⟨fun _ _ => ⟨_, rfl, (RdS.nil _ _), (show Fld.Ok (⟨1, 1, false, []⟩ : Fld) from ⟨by decide, by decide⟩)⟩, trivial⟩ (by first | decide | (simp only [List.length_cons, List.length_nil]; decide)) (show 1 ≤ maxLen by decide)
 have hr8 := hS7.row (i := 0) rfl
 have hr8s : _ * 48 ≤ _ := hr8.2
 obtain ⟨G9, hA11, hB12, hS13, hk14⟩ := hS7.lend
 have hrd15 := RowE.rdB hA11 hB12
 have hrd15s : _ * 48 ≤ _ := hrd15.small
 have hS16 : Sep G9 w4 ((RowE (α := Typ) (shr G9 w4) 84 (.slice (some ⟨bt1, 0, none⟩) 1 1) [(⟨[(⟨1, 1, false, []⟩ : Fld)]⟩ : Typ)]) :: (Blk bp3 #[.int .i64 (0), .int .i64 (0), .int .i64 (1), .int .i64 (0), .int .i64 (2)] 46) :: Rs) w4 := Sep.blkRow (src := (shr G9 w4)) (l := [(⟨[(⟨1, 1, false, []⟩ : Fld)]⟩ : Typ)]) (css := [(⟨[(⟨1, 1, false, []⟩ : Fld)]⟩ : Typ).cells (.slice (some ⟨bf2, 0, none⟩) 1 1)]) hS13 rfl ⟨fun _ _ => ⟨_, rfl, hrd15, (show Typ.Ok (⟨[(⟨1, 1, false, []⟩ : Fld)]⟩ : Typ) from ⟨⟩)⟩, trivial⟩ (by first | decide | (simp only [List.length_cons, List.length_nil]; decide)) (show 1 ≤ maxLen by decide)
 have hr17 := hS16.row (i := 0) rfl
 have hr17s : _ * 24 ≤ _ := hr17.2
 obtain ⟨G18, hA20, hB21, hS22, hk23⟩ := hS16.lend
 have hrd24 := RowE.rdB hA20 hB21
 have hrd24s : _ * 24 ≤ _ := hrd24.small
 have hS25 : Sep G18 w4 ((RowE (α := Prj) own 46 (.slice (some ⟨bp3, 0, none⟩) 1 1) [(⟨0, 0, 1, 0, 2⟩ : Prj)]) :: Rs) w4 := Sep.blkRow (src := own) (l := [(⟨0, 0, 1, 0, 2⟩ : Prj)]) (css := [(⟨0, 0, 1, 0, 2⟩ : Prj).cells]) hS22 rfl ⟨fun _ _ => ⟨rfl, (show Prj.Ok (⟨0, 0, 1, 0, 2⟩ : Prj) from ⟨by decide, by decide, by decide, by decide, by decide⟩)⟩, trivial⟩ (by first | decide | (simp only [List.length_cons, List.length_nil]; decide)) (show 1 ≤ maxLen by decide)
 have hr26 := hS25.row (i := 0) rfl
 have hr26s : _ * 40 ≤ _ := hr26.2
 obtain ⟨G27, hA29, hB30, hS31, hk32⟩ := hS25.lend
 have hrd33 := RowE.rd hA29
 have hrd33s : _ * 40 ≤ _ := hrd33.small
 refine st (zK (f := 12) (vals := [.agg (dC.cells (.slice (some ⟨bt1, 0, none⟩) 1 1) (.slice (some ⟨bp3, 0, none⟩) 1 1)).toArray, .int .i64 (2)]) (cap := []) rfl rfl oR (Xr (d := dC) (every := 2) (RdS.base hrd24 hB30) hrd33 (⟨⟩ : Dcl.Ok dC) (by decide) (RdS.base (RdS.base (RdS.base hKN hB12) hB21) hB30) hS31 (Xw)) ?_)
 rintro _ w37 ⟨b34, ev35, rfl, hev36, hS38⟩
 have hS39 := hk32 _ _ hS38
 have hS40 := hk23 _ _ hS39
 have hS41 := hk14 _ _ hS40
 have hS42 : Sep G W ((RowE (α := Fld) (shr G W) 88 (.slice (some ⟨bf2, 0, none⟩) 1 1) [(⟨1, 1, false, []⟩ : Fld)]) :: (RowE (α := Prj) own 46 (.slice (some ⟨bp3, 0, none⟩) 1 1) [(⟨0, 0, 1, 0, 2⟩ : Prj)]) :: (BaseO b34 dC ev35 ([] : List Ev)) :: Rs) w37 := hS41.sel 4 [0, 2, 3] (Nat.le_add_left _ _) rfl rfl
 refine st (zv (v := .pointer (some ⟨b34, 0, none⟩)) rfl ?_)
 refine zb ?_
 refine za ?_
 obtain rfl : ev35 = 2 := by omega
 have hS43 : Sep G W ((RowE (α := Fld) (shr G W) 88 (.slice (some ⟨bf2, 0, none⟩) 1 1) [(⟨1, 1, false, []⟩ : Fld)]) :: (RowE (α := Prj) own 46 (.slice (some ⟨bp3, 0, none⟩) 1 1) [(⟨0, 0, 1, 0, 2⟩ : Prj)]) :: (BaseO b34 dC 2 ([] : List Ev)) :: Rs) w37 := hS42
 refine zu (by kernel_rfl) (fun _ => ?_)
 refine st (zK (f := 30) (vals := []) (cap := []) rfl rfl Tryz.call30 (zap  hS43) ?_)
 rintro v44 w45 ⟨_, rfl, hS46⟩
 have hr47 := hS46.row (i := 0) rfl
 have hr47s : _ * 96 ≤ _ := hr47.2
 refine st (zv (v := v44) rfl ?_)
 refine zb ?_
 refine za ?_
 refine za ?_
 have hf5 : fiv.length = 5 := rfl
 obtain ⟨G48, hA50, hB51, hS52, hk53⟩ := hS46.lend
 have hrd54 := RowE.rd hA50
 have hrd54s : _ * 96 ≤ _ := hrd54.small
 refine Vy ((fun pp0 pp1 pp2 pp3 => WF [fun vals wq => Sep G48 w45 (pp0 :: pp1 :: (BaseO b34 dC 2 ([] : List Ev)) :: Rs) wq, fun vals wq => (vals 6 = (.int .i64 ((((fiv.take 3).length - yd 2 (fiv.take 3) ([] : List Ev)) : Nat) : Int) : Value)) ∧ Sep G48 w45 ((BaseO b34 dC 2 (fiv.take 3)) :: pp0 :: pp1 :: Rs) wq, fun _ _ => True, fun vals wq => (vals 6 = (.int .i64 ((((fiv.take 3).length - yd 2 (fiv.take 3) ([] : List Ev)) : Nat) : Int) : Value)) ∧ (vals 13 = (.int .i64 ((((fiv.take 4).length - yd 2 (fiv.take 4) (fiv.take 3)) : Nat) : Int) : Value)) ∧ Sep G48 w45 (pp2 :: pp0 :: pp1 :: Rs) wq, fun _ _ => True, fun _ _ => True, fun _ _ => True, fun vals wq => ∃ (b319 : Nat), (vals 6 = (.int .i64 ((((fiv.take 3).length - yd 2 (fiv.take 3) ([] : List Ev)) : Nat) : Int) : Value)) ∧ (vals 13 = (.int .i64 ((((fiv.take 4).length - yd 2 (fiv.take 4) (fiv.take 3)) : Nat) : Int) : Value)) ∧ (vals 30 = ((.slice (some ⟨b319, 0, none⟩) 4 4) : Value)) ∧ Sep G48 w45 ((Blk b319 #[.int .i64 ((fiv.getD 0 default).origin), .int .i64 ((fiv.getD 0 default).seq), .int .i64 ((fiv.getD 0 default).lam), (zG w45 (sb v44) (so v44 + 0 * 10 + 3)), .int .i64 ((fiv.getD 0 default).typ), .int .i64 ((fiv.getD 0 default).agg), .int .i64 ((fiv.getD 0 default).field), .int .i64 ((fiv.getD 0 default).op), .int .i64 ((fiv.getD 0 default).arg), .int .i64 ((fiv.getD 0 default).key), .int .i64 ((fiv.getD 1 default).origin), .int .i64 ((fiv.getD 1 default).seq), .int .i64 ((fiv.getD 1 default).lam), (zG w45 (sb v44) (so v44 + 1 * 10 + 3)), .int .i64 ((fiv.getD 1 default).typ), .int .i64 ((fiv.getD 1 default).agg), .int .i64 ((fiv.getD 1 default).field), .int .i64 ((fiv.getD 1 default).op), .int .i64 ((fiv.getD 1 default).arg), .int .i64 ((fiv.getD 1 default).key), .int .i64 ((fiv.getD 2 default).origin), .int .i64 ((fiv.getD 2 default).seq), .int .i64 ((fiv.getD 2 default).lam), (zG w45 (sb v44) (so v44 + 2 * 10 + 3)), .int .i64 ((fiv.getD 2 default).typ), .int .i64 ((fiv.getD 2 default).agg), .int .i64 ((fiv.getD 2 default).field), .int .i64 ((fiv.getD 2 default).op), .int .i64 ((fiv.getD 2 default).arg), .int .i64 ((fiv.getD 2 default).key), .int .i64 ((fiv.getD 4 default).origin), .int .i64 ((fiv.getD 4 default).seq), .int .i64 ((fiv.getD 4 default).lam), (zG w45 (sb v44) (so v44 + 4 * 10 + 3)), .int .i64 ((fiv.getD 4 default).typ), .int .i64 ((fiv.getD 4 default).agg), .int .i64 ((fiv.getD 4 default).field), .int .i64 ((fiv.getD 4 default).op), .int .i64 ((fiv.getD 4 default).arg), .int .i64 ((fiv.getD 4 default).key)] 64) :: pp2 :: pp0 :: pp1 :: Rs) wq, fun _ _ => True, fun _ _ => True, fun _ _ => True, fun _ _ => True, fun _ _ => True, fun _ _ => True, fun _ _ => True, fun vals wq => ∃ (b319 : Nat), (vals 6 = (.int .i64 ((((fiv.take 3).length - yd 2 (fiv.take 3) ([] : List Ev)) : Nat) : Int) : Value)) ∧ (vals 13 = (.int .i64 ((((fiv.take 4).length - yd 2 (fiv.take 4) (fiv.take 3)) : Nat) : Int) : Value)) ∧ (vals 30 = ((.slice (some ⟨b319, 0, none⟩) 4 4) : Value)) ∧ (vals 31 = (.int .i64 ((([(fiv.getD 0 default), (fiv.getD 1 default), (fiv.getD 2 default), (fiv.getD 4 default)].length - yd 2 [(fiv.getD 0 default), (fiv.getD 1 default), (fiv.getD 2 default), (fiv.getD 4 default)] (fiv.take 4)) : Nat) : Int) : Value)) ∧ Sep G48 w45 ((RowE (α := Ev) (shr G48 w45) 64 (.slice (some ⟨b319, 0, none⟩) 4 4) [(fiv.getD 0 default), (fiv.getD 1 default), (fiv.getD 2 default), (fiv.getD 4 default)]) :: pp3 :: pp0 :: pp1 :: Rs) wq, fun _ _ => True, fun _ _ => True, fun _ _ => True, fun _ _ => True, fun _ _ => True, fun _ _ => True, fun _ _ => True, fun _ _ => True, fun _ _ => True, fun _ _ => True, fun _ _ => True, fun _ _ => True, fun _ _ => True, fun _ _ => True, fun _ _ => True, fun vals wq => ∃ (b319 : Nat) (v400 : Value), (vals 6 = (.int .i64 ((((fiv.take 3).length - yd 2 (fiv.take 3) ([] : List Ev)) : Nat) : Int) : Value)) ∧ (vals 13 = (.int .i64 ((((fiv.take 4).length - yd 2 (fiv.take 4) (fiv.take 3)) : Nat) : Int) : Value)) ∧ (vals 30 = ((.slice (some ⟨b319, 0, none⟩) 4 4) : Value)) ∧ (vals 31 = (.int .i64 ((([(fiv.getD 0 default), (fiv.getD 1 default), (fiv.getD 2 default), (fiv.getD 4 default)].length - yd 2 [(fiv.getD 0 default), (fiv.getD 1 default), (fiv.getD 2 default), (fiv.getD 4 default)] (fiv.take 4)) : Nat) : Int) : Value)) ∧ (vals 36 = (v400 : Value)) ∧ Sep G48 w45 (pp3 :: (RowE (α := Row) own 44 v400 (yK dC [(fiv.getD 0 default), (fiv.getD 1 default), (fiv.getD 2 default), (fiv.getD 4 default)] 0)) :: (RowE (α := Ev) (shr G48 w45) 64 (.slice (some ⟨b319, 0, none⟩) 4 4) [(fiv.getD 0 default), (fiv.getD 1 default), (fiv.getD 2 default), (fiv.getD 4 default)]) :: pp0 :: pp1 :: Rs) wq, fun _ _ => True, fun _ _ => True, fun _ _ => True, fun _ _ => True, fun _ _ => True, fun _ _ => True, fun _ _ => True, fun _ _ => True, fun _ _ => True, fun _ _ => True, fun _ _ => True, fun _ _ => True, fun _ _ => True, fun _ _ => True, fun _ _ => True, fun vals wq => ∃ (b319 : Nat) (b423 : Nat), (vals 6 = (.int .i64 ((((fiv.take 3).length - yd 2 (fiv.take 3) ([] : List Ev)) : Nat) : Int) : Value)) ∧ (vals 13 = (.int .i64 ((((fiv.take 4).length - yd 2 (fiv.take 4) (fiv.take 3)) : Nat) : Int) : Value)) ∧ (vals 30 = ((.slice (some ⟨b319, 0, none⟩) 4 4) : Value)) ∧ (vals 31 = (.int .i64 ((([(fiv.getD 0 default), (fiv.getD 1 default), (fiv.getD 2 default), (fiv.getD 4 default)].length - yd 2 [(fiv.getD 0 default), (fiv.getD 1 default), (fiv.getD 2 default), (fiv.getD 4 default)] (fiv.take 4)) : Nat) : Int) : Value)) ∧ (vals 38 = ((.slice (some ⟨b423, 0, none⟩) 1 1) : Value)) ∧ Sep G48 w45 ((Blk b423 ((⟨0, 23, 4⟩ : Row).cells).toArray 44) :: (RowE (α := Ev) (shr G48 w45) 64 (.slice (some ⟨b319, 0, none⟩) 4 4) [(fiv.getD 0 default), (fiv.getD 1 default), (fiv.getD 2 default), (fiv.getD 4 default)]) :: pp3 :: pp0 :: pp1 :: Rs) wq, fun _ _ => True, fun _ _ => True, fun _ _ => True, fun _ _ => True, fun _ _ => True, fun _ _ => True, fun _ _ => True, fun _ _ => True, fun _ _ => True, fun _ _ => True, fun _ _ => True, fun _ _ => True, fun _ _ => True, fun _ _ => True, fun _ _ => True, fun vals wq => ∃ (b319 : Nat) (v400 : Value) (b423 : Nat), (vals 6 = (.int .i64 ((((fiv.take 3).length - yd 2 (fiv.take 3) ([] : List Ev)) : Nat) : Int) : Value)) ∧ (vals 13 = (.int .i64 ((((fiv.take 4).length - yd 2 (fiv.take 4) (fiv.take 3)) : Nat) : Int) : Value)) ∧ (vals 30 = ((.slice (some ⟨b319, 0, none⟩) 4 4) : Value)) ∧ (vals 31 = (.int .i64 ((([(fiv.getD 0 default), (fiv.getD 1 default), (fiv.getD 2 default), (fiv.getD 4 default)].length - yd 2 [(fiv.getD 0 default), (fiv.getD 1 default), (fiv.getD 2 default), (fiv.getD 4 default)] (fiv.take 4)) : Nat) : Int) : Value)) ∧ (vals 36 = (v400 : Value)) ∧ (vals 38 = ((.slice (some ⟨b423, 0, none⟩) 1 1) : Value)) ∧ Sep G48 w45 ((Blk b423 ((⟨0, 23, 4⟩ : Row).cells).toArray 44) :: pp3 :: (RowE (α := Row) own 44 v400 (yK dC [(fiv.getD 0 default), (fiv.getD 1 default), (fiv.getD 2 default), (fiv.getD 4 default)] 0)) :: (RowE (α := Ev) (shr G48 w45) 64 (.slice (some ⟨b319, 0, none⟩) 4 4) [(fiv.getD 0 default), (fiv.getD 1 default), (fiv.getD 2 default), (fiv.getD 4 default)]) :: pp0 :: pp1 :: Rs) wq, fun _ _ => True, fun _ _ => True, fun _ _ => True, fun _ _ => True, fun _ _ => True, fun _ _ => True, fun _ _ => True, fun _ _ => True, fun _ _ => True, fun _ _ => True, fun _ _ => True, fun _ _ => True, fun _ _ => True, fun _ _ => True, fun _ _ => True, fun _ _ => True, fun _ _ => True, fun _ _ => True, fun _ _ => True, fun _ _ => True, fun _ _ => True, fun _ _ => True, fun _ _ => True, fun _ _ => True, fun _ _ => True, fun _ _ => True, fun _ _ => True, fun _ _ => True, fun _ _ => True, fun _ _ => True, fun _ _ => True, fun _ _ => True, fun _ _ => True, fun _ _ => True, fun _ _ => True, fun _ _ => True, fun _ _ => True, fun _ _ => True, fun _ _ => True, fun _ _ => True, fun _ _ => True, fun _ _ => True, fun _ _ => True, fun _ _ => True, fun _ _ => True, fun _ _ => True, fun _ _ => True, fun _ _ => True, fun _ _ => True, fun _ _ => True, fun _ _ => True, fun _ _ => True, fun _ _ => True, fun _ _ => True, fun _ _ => True, fun _ _ => True, fun _ _ => True, fun _ _ => True, fun _ _ => True, fun _ _ => True, fun _ _ => True, fun _ _ => True, fun _ _ => True, fun vals wq => ∃ (b319 : Nat) (v400 : Value) (b423 : Nat), (vals 6 = (.int .i64 ((((fiv.take 3).length - yd 2 (fiv.take 3) ([] : List Ev)) : Nat) : Int) : Value)) ∧ (vals 13 = (.int .i64 ((((fiv.take 4).length - yd 2 (fiv.take 4) (fiv.take 3)) : Nat) : Int) : Value)) ∧ (vals 30 = ((.slice (some ⟨b319, 0, none⟩) 4 4) : Value)) ∧ (vals 31 = (.int .i64 ((([(fiv.getD 0 default), (fiv.getD 1 default), (fiv.getD 2 default), (fiv.getD 4 default)].length - yd 2 [(fiv.getD 0 default), (fiv.getD 1 default), (fiv.getD 2 default), (fiv.getD 4 default)] (fiv.take 4)) : Nat) : Int) : Value)) ∧ (vals 36 = (v400 : Value)) ∧ (vals 38 = ((.slice (some ⟨b423, 0, none⟩) 1 1) : Value)) ∧ (vals 39 = (.bool (decide ((yK dC [(fiv.getD 0 default), (fiv.getD 1 default), (fiv.getD 2 default), (fiv.getD 4 default)] 0) = [(⟨0, 23, 4⟩ : Row)])) : Value)) ∧ Sep G48 w45 ((RowE (α := Row) own 44 v400 (yK dC [(fiv.getD 0 default), (fiv.getD 1 default), (fiv.getD 2 default), (fiv.getD 4 default)] 0)) :: (RowE (α := Row) own 44 (.slice (some ⟨b423, 0, none⟩) 1 1) [(⟨0, 23, 4⟩ : Row)]) :: pp3 :: (RowE (α := Ev) (shr G48 w45) 64 (.slice (some ⟨b319, 0, none⟩) 4 4) [(fiv.getD 0 default), (fiv.getD 1 default), (fiv.getD 2 default), (fiv.getD 4 default)]) :: pp0 :: pp1 :: Rs) wq]) (RowE (α := Fld) (shr G W) 88 (.slice (some ⟨bf2, 0, none⟩) 1 1) [(⟨1, 1, false, []⟩ : Fld)]) (RowE (α := Prj) own 46 (.slice (some ⟨bp3, 0, none⟩) 1 1) [(⟨0, 0, 1, 0, 2⟩ : Prj)]) (BaseO b34 dC 2 (fiv.take 4)) (BaseO b34 dC 2 [(fiv.getD 0 default), (fiv.getD 1 default), (fiv.getD 2 default), (fiv.getD 4 default)])) (AF [Vl 0 (.pointer (some ⟨b34, 0, none⟩)), Vl 1 (.bool false), Vl 2 (.bool false), Vl 3 (.pointer (some ⟨b34, 0, none⟩)), Vl 4 (v44), Vl 5 ((xk 10 v44 0 3)), fun _ => True, Vl 7 (.bool false), Vl 8 (.bool false), Vl 9 (.bool false), Vl 10 (.pointer (some ⟨b34, 0, none⟩)), Vl 11 (v44), Vl 12 ((xk 10 v44 0 4)), fun _ => True, Vl 14 (.bool false), Vl 15 (.bool false), Vl 16 (.bool false), Vl 17 (.pointer (some ⟨b34, 0, none⟩)), Vl 18 (v44), Vl 19 (.pointer (some ⟨sb v44, so v44 + 0 * 10, none⟩)), Vl 20 (.agg ((fiv.getD 0 default).cells (zG w45 (sb v44) (so v44 + 0 * 10 + 3))).toArray), Vl 21 (v44), Vl 22 (.pointer (some ⟨sb v44, so v44 + 1 * 10, none⟩)), Vl 23 (.agg ((fiv.getD 1 default).cells (zG w45 (sb v44) (so v44 + 1 * 10 + 3))).toArray), Vl 24 (v44), Vl 25 (.pointer (some ⟨sb v44, so v44 + 2 * 10, none⟩)), Vl 26 (.agg ((fiv.getD 2 default).cells (zG w45 (sb v44) (so v44 + 2 * 10 + 3))).toArray), Vl 27 (v44), Vl 28 (.pointer (some ⟨sb v44, so v44 + 4 * 10, none⟩)), Vl 29 (.agg ((fiv.getD 4 default).cells (zG w45 (sb v44) (so v44 + 4 * 10 + 3))).toArray), fun _ => True, fun _ => True, Vl 32 (.bool false), Vl 33 (.bool false), Vl 34 (.bool false), Vl 35 (.pointer (some ⟨b34, 0, none⟩)), fun _ => True, Vl 37 (.agg ((⟨0, 23, 4⟩ : Row).cells).toArray), fun _ => True, fun _ => True, Vl 40 (.bool false), Vl 41 (.bool false)]) [[], [0], [0, 1], [0, 1, 2], [0, 1, 2], [0, 1, 2, 4], [0, 1, 2, 3, 4, 5], [0, 1, 2, 3, 4, 5, 6], [0, 1, 2, 3, 4, 5, 6, 7], [0, 1, 2, 3, 4, 5, 6, 7, 8], [0, 1, 2, 3, 4, 5, 6, 7, 8, 9], [0, 1, 2, 3, 4, 5, 6, 7, 8, 9], [0, 1, 2, 3, 4, 5, 6, 7, 8, 9, 11], [0, 1, 2, 3, 4, 5, 6, 7, 8, 9, 10, 11, 12], [0, 1, 2, 3, 4, 5, 6, 7, 8, 9, 10, 11, 12, 13], [0, 1, 2, 3, 4, 5, 6, 7, 8, 9, 10, 11, 12, 13, 14], [0, 1, 2, 3, 4, 5, 6, 7, 8, 9, 10, 11, 12, 13, 14, 15], [0, 1, 2, 3, 4, 5, 6, 7, 8, 9, 10, 11, 12, 13, 14, 15, 16], [0, 1, 2, 3, 4, 5, 6, 7, 8, 9, 10, 11, 12, 13, 14, 15, 16], [0, 1, 2, 3, 4, 5, 6, 7, 8, 9, 10, 11, 12, 13, 14, 15, 16, 18], [0, 1, 2, 3, 4, 5, 6, 7, 8, 9, 10, 11, 12, 13, 14, 15, 16, 18, 19], [0, 1, 2, 3, 4, 5, 6, 7, 8, 9, 10, 11, 12, 13, 14, 15, 16], [0, 1, 2, 3, 4, 5, 6, 7, 8, 9, 10, 11, 12, 13, 14, 15, 16, 21], [0, 1, 2, 3, 4, 5, 6, 7, 8, 9, 10, 11, 12, 13, 14, 15, 16, 21, 22], [0, 1, 2, 3, 4, 5, 6, 7, 8, 9, 10, 11, 12, 13, 14, 15, 16], [0, 1, 2, 3, 4, 5, 6, 7, 8, 9, 10, 11, 12, 13, 14, 15, 16, 24], [0, 1, 2, 3, 4, 5, 6, 7, 8, 9, 10, 11, 12, 13, 14, 15, 16, 24, 25], [0, 1, 2, 3, 4, 5, 6, 7, 8, 9, 10, 11, 12, 13, 14, 15, 16], [0, 1, 2, 3, 4, 5, 6, 7, 8, 9, 10, 11, 12, 13, 14, 15, 16, 27], [0, 1, 2, 3, 4, 5, 6, 7, 8, 9, 10, 11, 12, 13, 14, 15, 16, 27, 28], [0, 1, 2, 3, 4, 5, 6, 7, 8, 9, 10, 11, 12, 13, 14, 15, 16, 18, 19, 20, 21, 22, 23, 24, 25, 26, 27, 28, 29], [0, 1, 2, 3, 4, 5, 6, 7, 8, 9, 10, 11, 12, 13, 14, 15, 16, 17, 18, 19, 20, 21, 22, 23, 24, 25, 26, 27, 28, 29, 30], [0, 1, 2, 3, 4, 5, 6, 7, 8, 9, 10, 11, 12, 13, 14, 15, 16, 17, 18, 19, 20, 21, 22, 23, 24, 25, 26, 27, 28, 29, 30, 31], [0, 1, 2, 3, 4, 5, 6, 7, 8, 9, 10, 11, 12, 13, 14, 15, 16, 17, 18, 19, 20, 21, 22, 23, 24, 25, 26, 27, 28, 29, 30, 31, 32], [0, 1, 2, 3, 4, 5, 6, 7, 8, 9, 10, 11, 12, 13, 14, 15, 16, 17, 18, 19, 20, 21, 22, 23, 24, 25, 26, 27, 28, 29, 30, 31, 32, 33], [0, 1, 2, 3, 4, 5, 6, 7, 8, 9, 10, 11, 12, 13, 14, 15, 16, 17, 18, 19, 20, 21, 22, 23, 24, 25, 26, 27, 28, 29, 30, 31, 32, 33, 34], [0, 1, 2, 3, 4, 5, 6, 7, 8, 9, 10, 11, 12, 13, 14, 15, 16, 17, 18, 19, 20, 21, 22, 23, 24, 25, 26, 27, 28, 29, 30, 31, 32, 33, 34, 35], [0, 1, 2, 3, 4, 5, 6, 7, 8, 9, 10, 11, 12, 13, 14, 15, 16, 17, 18, 19, 20, 21, 22, 23, 24, 25, 26, 27, 28, 29, 30, 31, 32, 33, 34], [0, 1, 2, 3, 4, 5, 6, 7, 8, 9, 10, 11, 12, 13, 14, 15, 16, 17, 18, 19, 20, 21, 22, 23, 24, 25, 26, 27, 28, 29, 30, 31, 32, 33, 34, 37], [0, 1, 2, 3, 4, 5, 6, 7, 8, 9, 10, 11, 12, 13, 14, 15, 16, 17, 18, 19, 20, 21, 22, 23, 24, 25, 26, 27, 28, 29, 30, 31, 32, 33, 34, 35, 36, 37, 38], [0, 1, 2, 3, 4, 5, 6, 7, 8, 9, 10, 11, 12, 13, 14, 15, 16, 17, 18, 19, 20, 21, 22, 23, 24, 25, 26, 27, 28, 29, 30, 31, 32, 33, 34, 35, 36, 37, 38, 39], [0, 1, 2, 3, 4, 5, 6, 7, 8, 9, 10, 11, 12, 13, 14, 15, 16, 17, 18, 19, 20, 21, 22, 23, 24, 25, 26, 27, 28, 29, 30, 31, 32, 33, 34, 35, 36, 37, 38, 39, 40]] [6, 13, 30, 31, 36, 38, 39] [[0], [0], [0], [0], [0], [0], [0], [1], [1], [1], [1], [1], [1], [1], [3], [3], [3], [3, 7], [3], [3], [3], [3], [3], [3], [3], [3], [3], [3], [3], [3], [3], [7], [15], [15], [15], [15, 47], [15, 47], [15, 31], [15, 31], [63], [127], [127]] (by kernel_rfl) (by kernel_rfl) (by kernel_rfl) rfl (by kernel_rfl) (by kernel_rfl) (by decide) (fun _ h1 h2 h3 h4 _ => hS52.same h1 h2 h3 h4) ?_ (xf ⟨dA, dA, dA, dA, dA, dA, dT, dA, dA, dA, dA, dA, dA, dT, dA, dA, dA, dA, dA, dA, dA, dA, dA, dA, dA, dA, dA, dA, dA, dA, dT, dT, dA, dA, dA, dA, dT, dA, dT, dT, dA, dA, trivial⟩) ⟨?_, ?_, ?_, ?_, ?_, ?_, ?_, ?_, ?_, ?_, ?_, ?_, ?_, ?_, ?_, ?_, ?_, ?_, ?_, ?_, ?_, ?_, ?_, ?_, ?_, ?_, ?_, ?_, ?_, ?_, ?_, ?_, ?_, ?_, ?_, ?_, ?_, ?_, ?_, ?_, ?_, ?_, trivial⟩ ?_
 ·intro k vals vals' w hv h
  have e : ∀ j ∈ ([6, 13, 30, 31, 36, 38, 39] : List Nat), vals' j = vals j := hv
  match k, h with
  | 0, h => exact h
  | 1, h => exact (by simpa only [WF, List.getElem?_cons_zero, List.getElem?_cons_succ, e 6 (by decide)] using h)
  | 2, h => exact h
  | 3, h => exact (by simpa only [WF, List.getElem?_cons_zero, List.getElem?_cons_succ, e 6 (by decide), e 13 (by decide)] using h)
  | 4, h => exact h
  | 5, h => exact h
  | 6, h => exact h
  | 7, h => exact (by simpa only [WF, List.getElem?_cons_zero, List.getElem?_cons_succ, e 6 (by decide), e 13 (by decide), e 30 (by decide)] using h)
  | 8, h => exact h
  | 9, h => exact h
  | 10, h => exact h
  | 11, h => exact h
  | 12, h => exact h
  | 13, h => exact h
  | 14, h => exact h
  | 15, h => exact (by simpa only [WF, List.getElem?_cons_zero, List.getElem?_cons_succ, e 6 (by decide), e 13 (by decide), e 30 (by decide), e 31 (by decide)] using h)
  | 16, h => exact h
  | 17, h => exact h
  | 18, h => exact h
  | 19, h => exact h
  | 20, h => exact h
  | 21, h => exact h
  | 22, h => exact h
  | 23, h => exact h
  | 24, h => exact h
  | 25, h => exact h
  | 26, h => exact h
  | 27, h => exact h
  | 28, h => exact h
  | 29, h => exact h
  | 30, h => exact h
  | 31, h => exact (by simpa only [WF, List.getElem?_cons_zero, List.getElem?_cons_succ, e 6 (by decide), e 13 (by decide), e 30 (by decide), e 31 (by decide), e 36 (by decide)] using h)
  | 32, h => exact h
  | 33, h => exact h
  | 34, h => exact h
  | 35, h => exact h
  | 36, h => exact h
  | 37, h => exact h
  | 38, h => exact h
  | 39, h => exact h
  | 40, h => exact h
  | 41, h => exact h
  | 42, h => exact h
  | 43, h => exact h
  | 44, h => exact h
  | 45, h => exact h
  | 46, h => exact h
  | 47, h => exact (by simpa only [WF, List.getElem?_cons_zero, List.getElem?_cons_succ, e 6 (by decide), e 13 (by decide), e 30 (by decide), e 31 (by decide), e 38 (by decide)] using h)
  | 48, h => exact h
  | 49, h => exact h
  | 50, h => exact h
  | 51, h => exact h
  | 52, h => exact h
  | 53, h => exact h
  | 54, h => exact h
  | 55, h => exact h
  | 56, h => exact h
  | 57, h => exact h
  | 58, h => exact h
  | 59, h => exact h
  | 60, h => exact h
  | 61, h => exact h
  | 62, h => exact h
  | 63, h => exact (by simpa only [WF, List.getElem?_cons_zero, List.getElem?_cons_succ, e 6 (by decide), e 13 (by decide), e 30 (by decide), e 31 (by decide), e 36 (by decide), e 38 (by decide)] using h)
  | 64, h => exact h
  | 65, h => exact h
  | 66, h => exact h
  | 67, h => exact h
  | 68, h => exact h
  | 69, h => exact h
  | 70, h => exact h
  | 71, h => exact h
  | 72, h => exact h
  | 73, h => exact h
  | 74, h => exact h
  | 75, h => exact h
  | 76, h => exact h
  | 77, h => exact h
  | 78, h => exact h
  | 79, h => exact h
  | 80, h => exact h
  | 81, h => exact h
  | 82, h => exact h
  | 83, h => exact h
  | 84, h => exact h
  | 85, h => exact h
  | 86, h => exact h
  | 87, h => exact h
  | 88, h => exact h
  | 89, h => exact h
  | 90, h => exact h
  | 91, h => exact h
  | 92, h => exact h
  | 93, h => exact h
  | 94, h => exact h
  | 95, h => exact h
  | 96, h => exact h
  | 97, h => exact h
  | 98, h => exact h
  | 99, h => exact h
  | 100, h => exact h
  | 101, h => exact h
  | 102, h => exact h
  | 103, h => exact h
  | 104, h => exact h
  | 105, h => exact h
  | 106, h => exact h
  | 107, h => exact h
  | 108, h => exact h
  | 109, h => exact h
  | 110, h => exact h
  | 111, h => exact h
  | 112, h => exact h
  | 113, h => exact h
  | 114, h => exact h
  | 115, h => exact h
  | 116, h => exact h
  | 117, h => exact h
  | 118, h => exact h
  | 119, h => exact h
  | 120, h => exact h
  | 121, h => exact h
  | 122, h => exact h
  | 123, h => exact h
  | 124, h => exact h
  | 125, h => exact h
  | 126, h => exact h
  | 127, h => exact (by simpa only [WF, List.getElem?_cons_zero, List.getElem?_cons_succ, e 6 (by decide), e 13 (by decide), e 30 (by decide), e 31 (by decide), e 36 (by decide), e 38 (by decide), e 39 (by decide)] using h)
  | _ + 128, _ => trivial
 ·intro k480 vals w481 hk484 hW483 hA482
  refine obl rfl ?_
  exact zt (v := .pointer (some ⟨b34, 0, none⟩)) rfl (fun vals' hv _ => ⟨rfl, hv⟩)
 ·intro k485 vals w486 hk489 hW488 hA487
  have hk4892 : k485 ∈ [0] := hk489
  simp only [List.mem_cons, List.not_mem_nil, or_false] at hk4892
  subst hk4892
  have hS490 : Sep _ _ _ _ := hW488
  have e491 := hA487 0 (by decide)
  refine obl rfl ?_
  exact YB (b := b34) (o := 0) pR e491 (fun vals' hv _ => ⟨rfl, hv⟩)
 ·intro k492 vals w493 hk496 hW495 hA494
  have e497 := hA494 1 (by decide)
  refine obl rfl ?_
  exact zt (v := .bool false) e497 (fun vals' hv _ => ⟨rfl, hv⟩)
 ·intro k498 vals w499 hk502 hW501 hA500
  have e503 := hA500 2 (by decide)
  refine zz rfl rfl e503 (fun _ => ?_) (fun hb => absurd rfl hb)
  exact zt (v := .pointer (some ⟨b34, 0, none⟩)) rfl (fun vals' hv _ => ⟨rfl, hv⟩)
 ·intro k504 vals w505 hk508 hW507 hA506
  have e509 := hA506 2 (by decide)
  refine zz rfl rfl e509 (fun _ => ?_) (fun hb => absurd rfl hb)
  exact zt (v := v44) rfl (fun vals' hv _ => ⟨rfl, hv⟩)
 ·intro k510 vals w511 hk514 hW513 hA512
  have hk5142 : k510 ∈ [0] := hk514
  simp only [List.mem_cons, List.not_mem_nil, or_false] at hk5142
  subst hk5142
  have hS515 : Sep _ _ _ _ := hW513
  have e516 := hA512 2 (by decide)
  have e517 := hA512 4 (by decide)
  refine zz rfl rfl e516 (fun _ => ?_) (fun hb => absurd rfl hb)
  exact Ze (j := 3) (k := 10) (n := fiv.length) lT kT e517 hrd54.sl rfl (by first | omega | (simp only [Zq]; omega)) (fun vals' hv _ => ⟨rfl, hv⟩)
 ·intro k518 vals w519 hk522 hW521 hA520
  have hk5222 : k518 ∈ [0] := hk522
  simp only [List.mem_cons, List.not_mem_nil, or_false] at hk5222
  subst hk5222
  have hS523 : Sep _ _ _ _ := hW521
  have e524 := hA520 2 (by decide)
  have e525 := hA520 3 (by decide)
  have e526 := hA520 5 (by decide)
  refine zz rfl rfl e524 (fun _ => ?_) (fun hb => absurd rfl hb)
  have e527 := hA520 2 (by decide)
  have e528 := hA520 3 (by decide)
  have e529 := hA520 5 (by decide)
  have h530 := RdS.sub_hi (j := 3) hrd54 (by first | omega | (simp only [List.length_drop, List.length_take]; omega))
  have h530s : _ * 96 ≤ _ := h530.small
  have hS531 := hS523.mv2
  refine (zK (f := 13) (vals := [.pointer (some ⟨b34, 0, none⟩), (xk 10 v44 0 3)]) (cap := []) rfl (yI ⟨e528, e529, trivial⟩) oT (xA (l := fiv.take 3) (vl := (xk 10 v44 0 3)) h530 (RdS.base hKN hB51) hS531 (Xw) (Yv) ((by decide +kernel)) ((by decide +kernel)) ((by decide +kernel))) ?_)
  rintro _ w532 ⟨rfl, hS533⟩
  intro vals' hv hv'
  refine ⟨?_, trivial⟩
  show (vals' 6 = (.int .i64 ((((fiv.take 3).length - yd 2 (fiv.take 3) ([] : List Ev)) : Nat) : Int) : Value)) ∧ Sep G48 w45 ((BaseO b34 dC 2 (fiv.take 3)) :: (RowE (α := Fld) (shr G W) 88 (.slice (some ⟨bf2, 0, none⟩) 1 1) [(⟨1, 1, false, []⟩ : Fld)]) :: (RowE (α := Prj) own 46 (.slice (some ⟨bp3, 0, none⟩) 1 1) [(⟨0, 0, 1, 0, 2⟩ : Prj)]) :: Rs) w532
  exact ⟨hv, hS533⟩
 ·intro k534 vals w535 hk538 hW537 hA536
  have hk5382 : k534 ∈ [1] := hk538
  simp only [List.mem_cons, List.not_mem_nil, or_false] at hk5382
  subst hk5382
  obtain ⟨he109, hS539⟩ := hW537
  have e540 := hA536 2 (by decide)
  refine zz rfl rfl e540 (fun _ => ?_) (fun hb => absurd rfl hb)
  have hl541 : (!decide (((((fiv.take 3).length - yd 2 (fiv.take 3) ([] : List Ev)) : Nat) : Int) = 3)) = false := by decide +kernel
  exact yu (k := .i64) (a := ((((fiv.take 3).length - yd 2 (fiv.take 3) ([] : List Ev)) : Nat) : Int)) (b := 3) he109 rfl (fun vals' hv _ => ⟨rfl, hv.trans (congrArg Value.bool hl541)⟩)
 ·intro k542 vals w543 hk546 hW545 hA544
  have e547 := hA544 2 (by decide)
  have e548 := hA544 7 (by decide)
  refine obl rfl ?_
  exact yb (v := .bool false) e547 e548 (fun vals' hv _ => ⟨rfl, hv⟩)
 ·intro k549 vals w550 hk553 hW552 hA551
  have e554 := hA551 8 (by decide)
  refine obl rfl ?_
  exact zt (v := .bool false) e554 (fun vals' hv _ => ⟨rfl, hv⟩)
 ·intro k555 vals w556 hk559 hW558 hA557
  have e560 := hA557 9 (by decide)
  refine zz rfl rfl e560 (fun _ => ?_) (fun hb => absurd rfl hb)
  exact zt (v := .pointer (some ⟨b34, 0, none⟩)) rfl (fun vals' hv _ => ⟨rfl, hv⟩)
 ·intro k561 vals w562 hk565 hW564 hA563
  have e566 := hA563 9 (by decide)
  refine zz rfl rfl e566 (fun _ => ?_) (fun hb => absurd rfl hb)
  exact zt (v := v44) rfl (fun vals' hv _ => ⟨rfl, hv⟩)
 ·intro k567 vals w568 hk571 hW570 hA569
  have hk5712 : k567 ∈ [1] := hk571
  simp only [List.mem_cons, List.not_mem_nil, or_false] at hk5712
  subst hk5712
  obtain ⟨he109, hS572⟩ := hW570
  have e573 := hA569 9 (by decide)
  have e574 := hA569 11 (by decide)
  refine zz rfl rfl e573 (fun _ => ?_) (fun hb => absurd rfl hb)
  exact Ze (j := 4) (k := 10) (n := fiv.length) lT kT e574 hrd54.sl rfl (by first | omega | (simp only [Zq]; omega)) (fun vals' hv _ => ⟨rfl, hv⟩)
 ·intro k575 vals w576 hk579 hW578 hA577
  have hk5792 : k575 ∈ [1] := hk579
  simp only [List.mem_cons, List.not_mem_nil, or_false] at hk5792
  subst hk5792
  obtain ⟨he109, hS580⟩ := hW578
  have e581 := hA577 9 (by decide)
  have e582 := hA577 10 (by decide)
  have e583 := hA577 12 (by decide)
  refine zz rfl rfl e581 (fun _ => ?_) (fun hb => absurd rfl hb)
  have e584 := hA577 9 (by decide)
  have e585 := hA577 10 (by decide)
  have e586 := hA577 12 (by decide)
  have h587 := RdS.sub_hi (j := 4) hrd54 (by first | omega | (simp only [List.length_drop, List.length_take]; omega))
  have h587s : _ * 96 ≤ _ := h587.small
  refine (zK (f := 13) (vals := [.pointer (some ⟨b34, 0, none⟩), (xk 10 v44 0 4)]) (cap := []) rfl (yI ⟨e585, e586, trivial⟩) oT (xA (l := fiv.take 4) (vl := (xk 10 v44 0 4)) h587 (RdS.base hKN hB51) hS580 (Xw) (Yv) ((by decide +kernel)) ((by decide +kernel)) ((by decide +kernel))) ?_)
  rintro _ w588 ⟨rfl, hS589⟩
  intro vals' hv hv'
  refine ⟨?_, trivial⟩
  show (vals' 6 = (.int .i64 ((((fiv.take 3).length - yd 2 (fiv.take 3) ([] : List Ev)) : Nat) : Int) : Value)) ∧ (vals' 13 = (.int .i64 ((((fiv.take 4).length - yd 2 (fiv.take 4) (fiv.take 3)) : Nat) : Int) : Value)) ∧ Sep G48 w45 ((BaseO b34 dC 2 (fiv.take 4)) :: (RowE (α := Fld) (shr G W) 88 (.slice (some ⟨bf2, 0, none⟩) 1 1) [(⟨1, 1, false, []⟩ : Fld)]) :: (RowE (α := Prj) own 46 (.slice (some ⟨bp3, 0, none⟩) 1 1) [(⟨0, 0, 1, 0, 2⟩ : Prj)]) :: Rs) w588
  exact ⟨(by rw [hv' 6 (by decide)]; exact he109), hv, hS589⟩
 ·intro k590 vals w591 hk594 hW593 hA592
  have hk5942 : k590 ∈ [3] := hk594
  simp only [List.mem_cons, List.not_mem_nil, or_false] at hk5942
  subst hk5942
  obtain ⟨he109, he166, hS595⟩ := hW593
  have e596 := hA592 9 (by decide)
  refine zz rfl rfl e596 (fun _ => ?_) (fun hb => absurd rfl hb)
  have hl597 : (!decide (((((fiv.take 4).length - yd 2 (fiv.take 4) (fiv.take 3)) : Nat) : Int) = 1)) = false := by decide +kernel
  exact yu (k := .i64) (a := ((((fiv.take 4).length - yd 2 (fiv.take 4) (fiv.take 3)) : Nat) : Int)) (b := 1) he166 rfl (fun vals' hv _ => ⟨rfl, hv.trans (congrArg Value.bool hl597)⟩)
 ·intro k598 vals w599 hk602 hW601 hA600
  have e603 := hA600 9 (by decide)
  have e604 := hA600 14 (by decide)
  refine obl rfl ?_
  exact yb (v := .bool false) e603 e604 (fun vals' hv _ => ⟨rfl, hv⟩)
 ·intro k605 vals w606 hk609 hW608 hA607
  have e610 := hA607 15 (by decide)
  refine obl rfl ?_
  exact zt (v := .bool false) e610 (fun vals' hv _ => ⟨rfl, hv⟩)
 ·intro k611 vals w612 hk615 hW614 hA613
  have e616 := hA613 16 (by decide)
  refine zz rfl rfl e616 (fun _ => ?_) (fun hb => absurd rfl hb)
  exact zt (v := .pointer (some ⟨b34, 0, none⟩)) rfl (fun vals' hv _ => ⟨rfl, hv⟩)
 ·intro k617 vals w618 hk621 hW620 hA619
  have e622 := hA619 16 (by decide)
  refine zz rfl rfl e622 (fun _ => ?_) (fun hb => absurd rfl hb)
  exact zt (v := v44) rfl (fun vals' hv _ => ⟨rfl, hv⟩)
 ·intro k623 vals w624 hk627 hW626 hA625
  have hk6272 : k623 ∈ [3] := hk627
  simp only [List.mem_cons, List.not_mem_nil, or_false] at hk6272
  subst hk6272
  obtain ⟨he109, he166, hS628⟩ := hW626
  have e629 := hA625 16 (by decide)
  have e630 := hA625 18 (by decide)
  refine zz rfl rfl e629 (fun _ => ?_) (fun hb => absurd rfl hb)
  have hi631 : 0 < fiv.length := (by first | omega | (simp only [Zq]; omega))
  exact ze (k := 10) (i := 0) lT kT e630 hrd54.sl rfl hi631 (fun vals' hv _ => ⟨rfl, hv⟩)
 ·intro k632 vals w633 hk636 hW635 hA634
  have hk6362 : k632 ∈ [3] := hk636
  simp only [List.mem_cons, List.not_mem_nil, or_false] at hk6362
  subst hk6362
  obtain ⟨he109, he166, hS637⟩ := hW635
  have e638 := hA634 16 (by decide)
  have e639 := hA634 19 (by decide)
  refine zz rfl rfl e638 (fun _ => ?_) (fun hb => absurd rfl hb)
  have hi641 : 0 < fiv.length := (by first | omega | (simp only [Zq]; omega))
  obtain ⟨hce640, hde640_0, hoke640⟩ := hrd54.ev hi641
  rw [← zx default hi641] at hce640 hde640_0 hoke640
  have hsm642 : ((fiv.getD 0 default).deps).length * 8 ≤ 140737488355328 := hde640_0.small
  have hcw643 := hS637.cells hce640 (hrd54.foot (ne_of_lt hi641))
  exact zg (k := 10) nT kT rfl e639 hcw643 (fun vals' hv _ => ⟨rfl, hv⟩)
 ·intro k644 vals w645 hk648 hW647 hA646
  have e649 := hA646 16 (by decide)
  refine zz rfl rfl e649 (fun _ => ?_) (fun hb => absurd rfl hb)
  exact zt (v := v44) rfl (fun vals' hv _ => ⟨rfl, hv⟩)
 ·intro k650 vals w651 hk654 hW653 hA652
  have hk6542 : k650 ∈ [3] := hk654
  simp only [List.mem_cons, List.not_mem_nil, or_false] at hk6542
  subst hk6542
  obtain ⟨he109, he166, hS655⟩ := hW653
  have e656 := hA652 16 (by decide)
  have e657 := hA652 21 (by decide)
  refine zz rfl rfl e656 (fun _ => ?_) (fun hb => absurd rfl hb)
  have hi658 : 1 < fiv.length := (by first | omega | (simp only [Zq]; omega))
  exact ze (k := 10) (i := 1) lT kT e657 hrd54.sl rfl hi658 (fun vals' hv _ => ⟨rfl, hv⟩)
 ·intro k659 vals w660 hk663 hW662 hA661
  have hk6632 : k659 ∈ [3] := hk663
  simp only [List.mem_cons, List.not_mem_nil, or_false] at hk6632
  subst hk6632
  obtain ⟨he109, he166, hS664⟩ := hW662
  have e665 := hA661 16 (by decide)
  have e666 := hA661 22 (by decide)
  refine zz rfl rfl e665 (fun _ => ?_) (fun hb => absurd rfl hb)
  have hi668 : 1 < fiv.length := (by first | omega | (simp only [Zq]; omega))
  obtain ⟨hce667, hde667_0, hoke667⟩ := hrd54.ev hi668
  rw [← zx default hi668] at hce667 hde667_0 hoke667
  have hsm669 : ((fiv.getD 1 default).deps).length * 8 ≤ 140737488355328 := hde667_0.small
  have hcw670 := hS664.cells hce667 (hrd54.foot (ne_of_lt hi668))
  exact zg (k := 10) nT kT rfl e666 hcw670 (fun vals' hv _ => ⟨rfl, hv⟩)
 ·intro k671 vals w672 hk675 hW674 hA673
  have e676 := hA673 16 (by decide)
  refine zz rfl rfl e676 (fun _ => ?_) (fun hb => absurd rfl hb)
  exact zt (v := v44) rfl (fun vals' hv _ => ⟨rfl, hv⟩)
 ·intro k677 vals w678 hk681 hW680 hA679
  have hk6812 : k677 ∈ [3] := hk681
  simp only [List.mem_cons, List.not_mem_nil, or_false] at hk6812
  subst hk6812
  obtain ⟨he109, he166, hS682⟩ := hW680
  have e683 := hA679 16 (by decide)
  have e684 := hA679 24 (by decide)
  refine zz rfl rfl e683 (fun _ => ?_) (fun hb => absurd rfl hb)
  have hi685 : 2 < fiv.length := (by first | omega | (simp only [Zq]; omega))
  exact ze (k := 10) (i := 2) lT kT e684 hrd54.sl rfl hi685 (fun vals' hv _ => ⟨rfl, hv⟩)
 ·intro k686 vals w687 hk690 hW689 hA688
  have hk6902 : k686 ∈ [3] := hk690
  simp only [List.mem_cons, List.not_mem_nil, or_false] at hk6902
  subst hk6902
  obtain ⟨he109, he166, hS691⟩ := hW689
  have e692 := hA688 16 (by decide)
  have e693 := hA688 25 (by decide)
  refine zz rfl rfl e692 (fun _ => ?_) (fun hb => absurd rfl hb)
  have hi695 : 2 < fiv.length := (by first | omega | (simp only [Zq]; omega))
  obtain ⟨hce694, hde694_0, hoke694⟩ := hrd54.ev hi695
  rw [← zx default hi695] at hce694 hde694_0 hoke694
  have hsm696 : ((fiv.getD 2 default).deps).length * 8 ≤ 140737488355328 := hde694_0.small
  have hcw697 := hS691.cells hce694 (hrd54.foot (ne_of_lt hi695))
  exact zg (k := 10) nT kT rfl e693 hcw697 (fun vals' hv _ => ⟨rfl, hv⟩)
 ·intro k698 vals w699 hk702 hW701 hA700
  have e703 := hA700 16 (by decide)
  refine zz rfl rfl e703 (fun _ => ?_) (fun hb => absurd rfl hb)
  exact zt (v := v44) rfl (fun vals' hv _ => ⟨rfl, hv⟩)
 ·intro k704 vals w705 hk708 hW707 hA706
  have hk7082 : k704 ∈ [3] := hk708
  simp only [List.mem_cons, List.not_mem_nil, or_false] at hk7082
  subst hk7082
  obtain ⟨he109, he166, hS709⟩ := hW707
  have e710 := hA706 16 (by decide)
  have e711 := hA706 27 (by decide)
  refine zz rfl rfl e710 (fun _ => ?_) (fun hb => absurd rfl hb)
  have hi712 : 4 < fiv.length := (by first | omega | (simp only [Zq]; omega))
  exact ze (k := 10) (i := 4) lT kT e711 hrd54.sl rfl hi712 (fun vals' hv _ => ⟨rfl, hv⟩)
 ·intro k713 vals w714 hk717 hW716 hA715
  have hk7172 : k713 ∈ [3] := hk717
  simp only [List.mem_cons, List.not_mem_nil, or_false] at hk7172
  subst hk7172
  obtain ⟨he109, he166, hS718⟩ := hW716
  have e719 := hA715 16 (by decide)
  have e720 := hA715 28 (by decide)
  refine zz rfl rfl e719 (fun _ => ?_) (fun hb => absurd rfl hb)
  have hi722 : 4 < fiv.length := (by first | omega | (simp only [Zq]; omega))
  obtain ⟨hce721, hde721_0, hoke721⟩ := hrd54.ev hi722
  rw [← zx default hi722] at hce721 hde721_0 hoke721
  have hsm723 : ((fiv.getD 4 default).deps).length * 8 ≤ 140737488355328 := hde721_0.small
  have hcw724 := hS718.cells hce721 (hrd54.foot (ne_of_lt hi722))
  exact zg (k := 10) nT kT rfl e720 hcw724 (fun vals' hv _ => ⟨rfl, hv⟩)
 ·intro k725 vals w726 hk729 hW728 hA727
  have hk7292 : k725 ∈ [3] := hk729
  simp only [List.mem_cons, List.not_mem_nil, or_false] at hk7292
  subst hk7292
  obtain ⟨he109, he166, hS730⟩ := hW728
  have e731 := hA727 16 (by decide)
  have e732 := hA727 20 (by decide)
  have e733 := hA727 23 (by decide)
  have e734 := hA727 26 (by decide)
  have e735 := hA727 29 (by decide)
  refine zz rfl rfl e731 (fun _ => ?_) (fun hb => absurd rfl hb)
  have e736 := hA727 16 (by decide)
  have e737 := hA727 20 (by decide)
  have e738 := hA727 23 (by decide)
  have e739 := hA727 26 (by decide)
  have e740 := hA727 29 (by decide)
  refine (zJ (k := 10) (parts' := [(0, .agg ((fiv.getD 0 default).cells (zG w45 (sb v44) (so v44 + 0 * 10 + 3))).toArray), (1, .agg ((fiv.getD 1 default).cells (zG w45 (sb v44) (so v44 + 1 * 10 + 3))).toArray), (2, .agg ((fiv.getD 2 default).cells (zG w45 (sb v44) (so v44 + 2 * 10 + 3))).toArray), (3, .agg ((fiv.getD 4 default).cells (zG w45 (sb v44) (so v44 + 4 * 10 + 3))).toArray)]) (c := #[.int .i64 ((fiv.getD 0 default).origin), .int .i64 ((fiv.getD 0 default).seq), .int .i64 ((fiv.getD 0 default).lam), (zG w45 (sb v44) (so v44 + 0 * 10 + 3)), .int .i64 ((fiv.getD 0 default).typ), .int .i64 ((fiv.getD 0 default).agg), .int .i64 ((fiv.getD 0 default).field), .int .i64 ((fiv.getD 0 default).op), .int .i64 ((fiv.getD 0 default).arg), .int .i64 ((fiv.getD 0 default).key), .int .i64 ((fiv.getD 1 default).origin), .int .i64 ((fiv.getD 1 default).seq), .int .i64 ((fiv.getD 1 default).lam), (zG w45 (sb v44) (so v44 + 1 * 10 + 3)), .int .i64 ((fiv.getD 1 default).typ), .int .i64 ((fiv.getD 1 default).agg), .int .i64 ((fiv.getD 1 default).field), .int .i64 ((fiv.getD 1 default).op), .int .i64 ((fiv.getD 1 default).arg), .int .i64 ((fiv.getD 1 default).key), .int .i64 ((fiv.getD 2 default).origin), .int .i64 ((fiv.getD 2 default).seq), .int .i64 ((fiv.getD 2 default).lam), (zG w45 (sb v44) (so v44 + 2 * 10 + 3)), .int .i64 ((fiv.getD 2 default).typ), .int .i64 ((fiv.getD 2 default).agg), .int .i64 ((fiv.getD 2 default).field), .int .i64 ((fiv.getD 2 default).op), .int .i64 ((fiv.getD 2 default).arg), .int .i64 ((fiv.getD 2 default).key), .int .i64 ((fiv.getD 4 default).origin), .int .i64 ((fiv.getD 4 default).seq), .int .i64 ((fiv.getD 4 default).lam), (zG w45 (sb v44) (so v44 + 4 * 10 + 3)), .int .i64 ((fiv.getD 4 default).typ), .int .i64 ((fiv.getD 4 default).agg), .int .i64 ((fiv.getD 4 default).field), .int .i64 ((fiv.getD 4 default).op), .int .i64 ((fiv.getD 4 default).arg), .int .i64 ((fiv.getD 4 default).key)]) lT kT tT (by decide) (xG ⟨rfl, e737, rfl, e738, rfl, e739, rfl, e740, trivial⟩) (by kernel_rfl) ?_)
  intro w743 b319 hn741
  have hS744 := hS730.new hn741
  intro vals' hv hv'
  refine ⟨?_, trivial⟩
  show ∃ (b319 : Nat), (vals' 6 = (.int .i64 ((((fiv.take 3).length - yd 2 (fiv.take 3) ([] : List Ev)) : Nat) : Int) : Value)) ∧ (vals' 13 = (.int .i64 ((((fiv.take 4).length - yd 2 (fiv.take 4) (fiv.take 3)) : Nat) : Int) : Value)) ∧ (vals' 30 = ((.slice (some ⟨b319, 0, none⟩) 4 4) : Value)) ∧ Sep G48 w45 ((Blk b319 #[.int .i64 ((fiv.getD 0 default).origin), .int .i64 ((fiv.getD 0 default).seq), .int .i64 ((fiv.getD 0 default).lam), (zG w45 (sb v44) (so v44 + 0 * 10 + 3)), .int .i64 ((fiv.getD 0 default).typ), .int .i64 ((fiv.getD 0 default).agg), .int .i64 ((fiv.getD 0 default).field), .int .i64 ((fiv.getD 0 default).op), .int .i64 ((fiv.getD 0 default).arg), .int .i64 ((fiv.getD 0 default).key), .int .i64 ((fiv.getD 1 default).origin), .int .i64 ((fiv.getD 1 default).seq), .int .i64 ((fiv.getD 1 default).lam), (zG w45 (sb v44) (so v44 + 1 * 10 + 3)), .int .i64 ((fiv.getD 1 default).typ), .int .i64 ((fiv.getD 1 default).agg), .int .i64 ((fiv.getD 1 default).field), .int .i64 ((fiv.getD 1 default).op), .int .i64 ((fiv.getD 1 default).arg), .int .i64 ((fiv.getD 1 default).key), .int .i64 ((fiv.getD 2 default).origin), .int .i64 ((fiv.getD 2 default).seq), .int .i64 ((fiv.getD 2 default).lam), (zG w45 (sb v44) (so v44 + 2 * 10 + 3)), .int .i64 ((fiv.getD 2 default).typ), .int .i64 ((fiv.getD 2 default).agg), .int .i64 ((fiv.getD 2 default).field), .int .i64 ((fiv.getD 2 default).op), .int .i64 ((fiv.getD 2 default).arg), .int .i64 ((fiv.getD 2 default).key), .int .i64 ((fiv.getD 4 default).origin), .int .i64 ((fiv.getD 4 default).seq), .int .i64 ((fiv.getD 4 default).lam), (zG w45 (sb v44) (so v44 + 4 * 10 + 3)), .int .i64 ((fiv.getD 4 default).typ), .int .i64 ((fiv.getD 4 default).agg), .int .i64 ((fiv.getD 4 default).field), .int .i64 ((fiv.getD 4 default).op), .int .i64 ((fiv.getD 4 default).arg), .int .i64 ((fiv.getD 4 default).key)] 64) :: (BaseO b34 dC 2 (fiv.take 4)) :: (RowE (α := Fld) (shr G W) 88 (.slice (some ⟨bf2, 0, none⟩) 1 1) [(⟨1, 1, false, []⟩ : Fld)]) :: (RowE (α := Prj) own 46 (.slice (some ⟨bp3, 0, none⟩) 1 1) [(⟨0, 0, 1, 0, 2⟩ : Prj)]) :: Rs) w743
  exact ⟨b319, (by rw [hv' 6 (by decide)]; exact he109), (by rw [hv' 13 (by decide)]; exact he166), hv, hS744⟩
 ·intro k745 vals w746 hk749 hW748 hA747
  have hk7492 : k745 ∈ [7] := hk749
  simp only [List.mem_cons, List.not_mem_nil, or_false] at hk7492
  subst hk7492
  obtain ⟨b319, he109, he166, he322, hS750⟩ := hW748
  have e751 := hA747 16 (by decide)
  have e752 := hA747 17 (by decide)
  refine zz rfl rfl e751 (fun _ => ?_) (fun hb => absurd rfl hb)
  have e753 := hA747 16 (by decide)
  have e754 := hA747 17 (by decide)
  have hi756 : 0 < fiv.length := (by first | omega | (simp only [Zq]; omega))
  obtain ⟨hce755, hde755_0, hoke755⟩ := hrd54.ev hi756
  rw [← zx default hi756] at hce755 hde755_0 hoke755
  have hsm757 : ((fiv.getD 0 default).deps).length * 8 ≤ 140737488355328 := hde755_0.small
  have hcw758 := hS750.cells hce755 (hrd54.foot (ne_of_lt hi756))
  have hi760 : 1 < fiv.length := (by first | omega | (simp only [Zq]; omega))
  obtain ⟨hce759, hde759_0, hoke759⟩ := hrd54.ev hi760
  rw [← zx default hi760] at hce759 hde759_0 hoke759
  have hsm761 : ((fiv.getD 1 default).deps).length * 8 ≤ 140737488355328 := hde759_0.small
  have hcw762 := hS750.cells hce759 (hrd54.foot (ne_of_lt hi760))
  have hi764 : 2 < fiv.length := (by first | omega | (simp only [Zq]; omega))
  obtain ⟨hce763, hde763_0, hoke763⟩ := hrd54.ev hi764
  rw [← zx default hi764] at hce763 hde763_0 hoke763
  have hsm765 : ((fiv.getD 2 default).deps).length * 8 ≤ 140737488355328 := hde763_0.small
  have hcw766 := hS750.cells hce763 (hrd54.foot (ne_of_lt hi764))
  have hi768 : 4 < fiv.length := (by first | omega | (simp only [Zq]; omega))
  obtain ⟨hce767, hde767_0, hoke767⟩ := hrd54.ev hi768
  rw [← zx default hi768] at hce767 hde767_0 hoke767
  have hsm769 : ((fiv.getD 4 default).deps).length * 8 ≤ 140737488355328 := hde767_0.small
  have hcw770 := hS750.cells hce767 (hrd54.foot (ne_of_lt hi768))
  have hS771 : Sep G48 w45 ((RowE (α := Ev) (shr G48 w45) 64 (.slice (some ⟨b319, 0, none⟩) 4 4) [(fiv.getD 0 default), (fiv.getD 1 default), (fiv.getD 2 default), (fiv.getD 4 default)]) :: (BaseO b34 dC 2 (fiv.take 4)) :: (RowE (α := Fld) (shr G W) 88 (.slice (some ⟨bf2, 0, none⟩) 1 1) [(⟨1, 1, false, []⟩ : Fld)]) :: (RowE (α := Prj) own 46 (.slice (some ⟨bp3, 0, none⟩) 1 1) [(⟨0, 0, 1, 0, 2⟩ : Prj)]) :: Rs) w746 := Sep.blkRow (src := (shr G48 w45)) (l := [(fiv.getD 0 default), (fiv.getD 1 default), (fiv.getD 2 default), (fiv.getD 4 default)]) (css := [(fiv.getD 0 default).cells (zG w45 (sb v44) (so v44 + 0 * 10 + 3)), (fiv.getD 1 default).cells (zG w45 (sb v44) (so v44 + 1 * 10 + 3)), (fiv.getD 2 default).cells (zG w45 (sb v44) (so v44 + 2 * 10 + 3)), (fiv.getD 4 default).cells (zG w45 (sb v44) (so v44 + 4 * 10 + 3))]) hS750 rfl ⟨fun _ _ => ⟨_, rfl, hde755_0, hoke755⟩, fun _ _ => ⟨_, rfl, hde759_0, hoke759⟩, fun _ _ => ⟨_, rfl, hde763_0, hoke763⟩, fun _ _ => ⟨_, rfl, hde767_0, hoke767⟩, trivial⟩ (by first | decide | (simp only [List.length_cons, List.length_nil]; decide)) (show 4 ≤ maxLen by decide)
  have hr772 := hS771.row (i := 0) rfl
  have hr772s : _ * 96 ≤ _ := hr772.2
  obtain ⟨G773, hA775, hB776, hS777, hk778⟩ := hS771.lend
  have hrd779 := RowE.rdB hA775 hB776
  have hrd779s : _ * 96 ≤ _ := hrd779.small
  refine (zK (f := 13) (vals := [.pointer (some ⟨b34, 0, none⟩), (.slice (some ⟨b319, 0, none⟩) 4 4)]) (cap := []) rfl (yI ⟨e754, he322, trivial⟩) oT (xA (l := [(fiv.getD 0 default), (fiv.getD 1 default), (fiv.getD 2 default), (fiv.getD 4 default)]) (vl := (.slice (some ⟨b319, 0, none⟩) 4 4)) hrd779 (RdS.base (RdS.base hKN hB51) hB776) hS777 (Xw) (Yv) ((by decide +kernel)) ((by decide +kernel)) ((by decide +kernel))) ?_)
  rintro _ w780 ⟨rfl, hS781⟩
  have hS782 := hk778 _ _ hS781
  intro vals' hv hv'
  refine ⟨?_, trivial⟩
  show ∃ (b319 : Nat), (vals' 6 = (.int .i64 ((((fiv.take 3).length - yd 2 (fiv.take 3) ([] : List Ev)) : Nat) : Int) : Value)) ∧ (vals' 13 = (.int .i64 ((((fiv.take 4).length - yd 2 (fiv.take 4) (fiv.take 3)) : Nat) : Int) : Value)) ∧ (vals' 30 = ((.slice (some ⟨b319, 0, none⟩) 4 4) : Value)) ∧ (vals' 31 = (.int .i64 ((([(fiv.getD 0 default), (fiv.getD 1 default), (fiv.getD 2 default), (fiv.getD 4 default)].length - yd 2 [(fiv.getD 0 default), (fiv.getD 1 default), (fiv.getD 2 default), (fiv.getD 4 default)] (fiv.take 4)) : Nat) : Int) : Value)) ∧ Sep G48 w45 ((RowE (α := Ev) (shr G48 w45) 64 (.slice (some ⟨b319, 0, none⟩) 4 4) [(fiv.getD 0 default), (fiv.getD 1 default), (fiv.getD 2 default), (fiv.getD 4 default)]) :: (BaseO b34 dC 2 [(fiv.getD 0 default), (fiv.getD 1 default), (fiv.getD 2 default), (fiv.getD 4 default)]) :: (RowE (α := Fld) (shr G W) 88 (.slice (some ⟨bf2, 0, none⟩) 1 1) [(⟨1, 1, false, []⟩ : Fld)]) :: (RowE (α := Prj) own 46 (.slice (some ⟨bp3, 0, none⟩) 1 1) [(⟨0, 0, 1, 0, 2⟩ : Prj)]) :: Rs) w780
  exact ⟨b319, (by rw [hv' 6 (by decide)]; exact he109), (by rw [hv' 13 (by decide)]; exact he166), (by rw [hv' 30 (by decide)]; exact he322), hv, hS782⟩
 ·intro k783 vals w784 hk787 hW786 hA785
  have hk7872 : k783 ∈ [15] := hk787
  simp only [List.mem_cons, List.not_mem_nil, or_false] at hk7872
  subst hk7872
  obtain ⟨b319, he109, he166, he322, he361, hS788⟩ := hW786
  have e789 := hA785 16 (by decide)
  refine zz rfl rfl e789 (fun _ => ?_) (fun hb => absurd rfl hb)
  have hl790 : (!decide (((([(fiv.getD 0 default), (fiv.getD 1 default), (fiv.getD 2 default), (fiv.getD 4 default)].length - yd 2 [(fiv.getD 0 default), (fiv.getD 1 default), (fiv.getD 2 default), (fiv.getD 4 default)] (fiv.take 4)) : Nat) : Int) = 2)) = false := by decide +kernel
  exact yu (k := .i64) (a := ((([(fiv.getD 0 default), (fiv.getD 1 default), (fiv.getD 2 default), (fiv.getD 4 default)].length - yd 2 [(fiv.getD 0 default), (fiv.getD 1 default), (fiv.getD 2 default), (fiv.getD 4 default)] (fiv.take 4)) : Nat) : Int)) (b := 2) he361 rfl (fun vals' hv _ => ⟨rfl, hv.trans (congrArg Value.bool hl790)⟩)
 ·intro k791 vals w792 hk795 hW794 hA793
  have e796 := hA793 16 (by decide)
  have e797 := hA793 32 (by decide)
  refine obl rfl ?_
  exact yb (v := .bool false) e796 e797 (fun vals' hv _ => ⟨rfl, hv⟩)
 ·intro k798 vals w799 hk802 hW801 hA800
  have e803 := hA800 33 (by decide)
  refine obl rfl ?_
  exact zt (v := .bool false) e803 (fun vals' hv _ => ⟨rfl, hv⟩)
 ·intro k804 vals w805 hk808 hW807 hA806
  have e809 := hA806 34 (by decide)
  refine zz rfl rfl e809 (fun _ => ?_) (fun hb => absurd rfl hb)
  exact zt (v := .pointer (some ⟨b34, 0, none⟩)) rfl (fun vals' hv _ => ⟨rfl, hv⟩)
 ·intro k810 vals w811 hk814 hW813 hA812
  have hk8142 : k810 ∈ [15, 47] := hk814
  simp only [List.mem_cons, List.not_mem_nil, or_false] at hk8142
  rcases hk8142 with rfl | rfl
  ·skip
   obtain ⟨b319, he109, he166, he322, he361, hS815⟩ := hW813
   have e816 := hA812 34 (by decide)
   have e817 := hA812 35 (by decide)
   refine zz rfl rfl e816 (fun _ => ?_) (fun hb => absurd rfl hb)
   have e818 := hA812 34 (by decide)
   have e819 := hA812 35 (by decide)
   have hS820 := hS815.mv1
   refine (zK (f := 16) (vals := [.pointer (some ⟨b34, 0, none⟩), .int .i64 (0)]) (cap := []) rfl (yI ⟨e819, rfl, trivial⟩) vT (YS (q := 0) (by decide) hS820 ((by decide +kernel))) ?_)
   rintro v400 w822 ⟨_, rfl, hS823⟩
   have hr824 := hS823.row (i := 1) rfl
   have hr824s : _ * 24 ≤ _ := hr824.2
   intro vals' hv hv'
   refine ⟨?_, trivial⟩
   show ∃ (b319 : Nat) (v400 : Value), (vals' 6 = (.int .i64 ((((fiv.take 3).length - yd 2 (fiv.take 3) ([] : List Ev)) : Nat) : Int) : Value)) ∧ (vals' 13 = (.int .i64 ((((fiv.take 4).length - yd 2 (fiv.take 4) (fiv.take 3)) : Nat) : Int) : Value)) ∧ (vals' 30 = ((.slice (some ⟨b319, 0, none⟩) 4 4) : Value)) ∧ (vals' 31 = (.int .i64 ((([(fiv.getD 0 default), (fiv.getD 1 default), (fiv.getD 2 default), (fiv.getD 4 default)].length - yd 2 [(fiv.getD 0 default), (fiv.getD 1 default), (fiv.getD 2 default), (fiv.getD 4 default)] (fiv.take 4)) : Nat) : Int) : Value)) ∧ (vals' 36 = (v400 : Value)) ∧ Sep G48 w45 ((BaseO b34 dC 2 [(fiv.getD 0 default), (fiv.getD 1 default), (fiv.getD 2 default), (fiv.getD 4 default)]) :: (RowE (α := Row) own 44 v400 (yK dC [(fiv.getD 0 default), (fiv.getD 1 default), (fiv.getD 2 default), (fiv.getD 4 default)] 0)) :: (RowE (α := Ev) (shr G48 w45) 64 (.slice (some ⟨b319, 0, none⟩) 4 4) [(fiv.getD 0 default), (fiv.getD 1 default), (fiv.getD 2 default), (fiv.getD 4 default)]) :: (RowE (α := Fld) (shr G W) 88 (.slice (some ⟨bf2, 0, none⟩) 1 1) [(⟨1, 1, false, []⟩ : Fld)]) :: (RowE (α := Prj) own 46 (.slice (some ⟨bp3, 0, none⟩) 1 1) [(⟨0, 0, 1, 0, 2⟩ : Prj)]) :: Rs) w822
   exact ⟨b319, v400, (by rw [hv' 6 (by decide)]; exact he109), (by rw [hv' 13 (by decide)]; exact he166), (by rw [hv' 30 (by decide)]; exact he322), (by rw [hv' 31 (by decide)]; exact he361), hv, hS823⟩
  ·skip
   obtain ⟨b319, b423, he109, he166, he322, he361, he426, hS825⟩ := hW813
   have e826 := hA812 34 (by decide)
   have e827 := hA812 35 (by decide)
   refine zz rfl rfl e826 (fun _ => ?_) (fun hb => absurd rfl hb)
   have e828 := hA812 34 (by decide)
   have e829 := hA812 35 (by decide)
   have hS830 := hS825.mv2
   refine (zK (f := 16) (vals := [.pointer (some ⟨b34, 0, none⟩), .int .i64 (0)]) (cap := []) rfl (yI ⟨e829, rfl, trivial⟩) vT (YS (q := 0) (by decide) hS830 ((by decide +kernel))) ?_)
   rintro v400 w832 ⟨_, rfl, hS833⟩
   have hr834 := hS833.row (i := 1) rfl
   have hr834s : _ * 24 ≤ _ := hr834.2
   have hS835 := hS833.mv2
   intro vals' hv hv'
   refine ⟨?_, trivial⟩
   show ∃ (b319 : Nat) (v400 : Value) (b423 : Nat), (vals' 6 = (.int .i64 ((((fiv.take 3).length - yd 2 (fiv.take 3) ([] : List Ev)) : Nat) : Int) : Value)) ∧ (vals' 13 = (.int .i64 ((((fiv.take 4).length - yd 2 (fiv.take 4) (fiv.take 3)) : Nat) : Int) : Value)) ∧ (vals' 30 = ((.slice (some ⟨b319, 0, none⟩) 4 4) : Value)) ∧ (vals' 31 = (.int .i64 ((([(fiv.getD 0 default), (fiv.getD 1 default), (fiv.getD 2 default), (fiv.getD 4 default)].length - yd 2 [(fiv.getD 0 default), (fiv.getD 1 default), (fiv.getD 2 default), (fiv.getD 4 default)] (fiv.take 4)) : Nat) : Int) : Value)) ∧ (vals' 36 = (v400 : Value)) ∧ (vals' 38 = ((.slice (some ⟨b423, 0, none⟩) 1 1) : Value)) ∧ Sep G48 w45 ((Blk b423 ((⟨0, 23, 4⟩ : Row).cells).toArray 44) :: (BaseO b34 dC 2 [(fiv.getD 0 default), (fiv.getD 1 default), (fiv.getD 2 default), (fiv.getD 4 default)]) :: (RowE (α := Row) own 44 v400 (yK dC [(fiv.getD 0 default), (fiv.getD 1 default), (fiv.getD 2 default), (fiv.getD 4 default)] 0)) :: (RowE (α := Ev) (shr G48 w45) 64 (.slice (some ⟨b319, 0, none⟩) 4 4) [(fiv.getD 0 default), (fiv.getD 1 default), (fiv.getD 2 default), (fiv.getD 4 default)]) :: (RowE (α := Fld) (shr G W) 88 (.slice (some ⟨bf2, 0, none⟩) 1 1) [(⟨1, 1, false, []⟩ : Fld)]) :: (RowE (α := Prj) own 46 (.slice (some ⟨bp3, 0, none⟩) 1 1) [(⟨0, 0, 1, 0, 2⟩ : Prj)]) :: Rs) w832
   exact ⟨b319, v400, b423, (by rw [hv' 6 (by decide)]; exact he109), (by rw [hv' 13 (by decide)]; exact he166), (by rw [hv' 30 (by decide)]; exact he322), (by rw [hv' 31 (by decide)]; exact he361), hv, (by rw [hv' 38 (by decide)]; exact he426), hS835⟩
 ·intro k836 vals w837 hk840 hW839 hA838
  have e841 := hA838 34 (by decide)
  refine zz rfl rfl e841 (fun _ => ?_) (fun hb => absurd rfl hb)
  have ok842 : Row.Ok (⟨0, 23, 4⟩ : Row) := ⟨(show InR (0) from (by decide)), (show InR (23) from (by decide)), (show InR (4) from (by decide))⟩
  exact zU (parts' := [(1, .int .i64 (23)), (2, .int .i64 (4))]) (v := .agg ((⟨0, 23, 4⟩ : Row).cells).toArray) rfl (by simp [Instr.build, Instr.fill, Ev.cells, go_sem, Mv.cells, Fld.cells, Typ.cells, Prj.cells, Dcl.cells, Cel.cells, AskR.cells, CelS.cells, Ev.cells, Ent.cells, Sta.cells, Row.cells, Trn.cells]) (fun vals' hv _ => ⟨rfl, hv⟩)
 ·intro k843 vals w844 hk847 hW846 hA845
  have hk8472 : k843 ∈ [15, 31] := hk847
  simp only [List.mem_cons, List.not_mem_nil, or_false] at hk8472
  rcases hk8472 with rfl | rfl
  ·skip
   obtain ⟨b319, he109, he166, he322, he361, hS848⟩ := hW846
   have e849 := hA845 34 (by decide)
   have e850 := hA845 37 (by decide)
   refine zz rfl rfl e849 (fun _ => ?_) (fun hb => absurd rfl hb)
   have e851 := hA845 34 (by decide)
   have e852 := hA845 37 (by decide)
   refine (zJ (k := 3) (parts' := [(0, .agg ((⟨0, 23, 4⟩ : Row).cells).toArray)]) (c := ((⟨0, 23, 4⟩ : Row).cells).toArray) pT qT sR (by decide) (xG ⟨rfl, e852, trivial⟩) (by kernel_rfl) ?_)
   intro w855 b423 hn853
   have hS856 := hS848.new hn853
   intro vals' hv hv'
   refine ⟨?_, trivial⟩
   show ∃ (b319 : Nat) (b423 : Nat), (vals' 6 = (.int .i64 ((((fiv.take 3).length - yd 2 (fiv.take 3) ([] : List Ev)) : Nat) : Int) : Value)) ∧ (vals' 13 = (.int .i64 ((((fiv.take 4).length - yd 2 (fiv.take 4) (fiv.take 3)) : Nat) : Int) : Value)) ∧ (vals' 30 = ((.slice (some ⟨b319, 0, none⟩) 4 4) : Value)) ∧ (vals' 31 = (.int .i64 ((([(fiv.getD 0 default), (fiv.getD 1 default), (fiv.getD 2 default), (fiv.getD 4 default)].length - yd 2 [(fiv.getD 0 default), (fiv.getD 1 default), (fiv.getD 2 default), (fiv.getD 4 default)] (fiv.take 4)) : Nat) : Int) : Value)) ∧ (vals' 38 = ((.slice (some ⟨b423, 0, none⟩) 1 1) : Value)) ∧ Sep G48 w45 ((Blk b423 ((⟨0, 23, 4⟩ : Row).cells).toArray 44) :: (RowE (α := Ev) (shr G48 w45) 64 (.slice (some ⟨b319, 0, none⟩) 4 4) [(fiv.getD 0 default), (fiv.getD 1 default), (fiv.getD 2 default), (fiv.getD 4 default)]) :: (BaseO b34 dC 2 [(fiv.getD 0 default), (fiv.getD 1 default), (fiv.getD 2 default), (fiv.getD 4 default)]) :: (RowE (α := Fld) (shr G W) 88 (.slice (some ⟨bf2, 0, none⟩) 1 1) [(⟨1, 1, false, []⟩ : Fld)]) :: (RowE (α := Prj) own 46 (.slice (some ⟨bp3, 0, none⟩) 1 1) [(⟨0, 0, 1, 0, 2⟩ : Prj)]) :: Rs) w855
   exact ⟨b319, b423, (by rw [hv' 6 (by decide)]; exact he109), (by rw [hv' 13 (by decide)]; exact he166), (by rw [hv' 30 (by decide)]; exact he322), (by rw [hv' 31 (by decide)]; exact he361), hv, hS856⟩
  ·skip
   obtain ⟨b319, v400, he109, he166, he322, he361, he404, hS857⟩ := hW846
   have e858 := hA845 34 (by decide)
   have e859 := hA845 37 (by decide)
   refine zz rfl rfl e858 (fun _ => ?_) (fun hb => absurd rfl hb)
   have e860 := hA845 34 (by decide)
   have e861 := hA845 37 (by decide)
   refine (zJ (k := 3) (parts' := [(0, .agg ((⟨0, 23, 4⟩ : Row).cells).toArray)]) (c := ((⟨0, 23, 4⟩ : Row).cells).toArray) pT qT sR (by decide) (xG ⟨rfl, e861, trivial⟩) (by kernel_rfl) ?_)
   intro w864 b423 hn862
   have hS865 := hS857.new hn862
   intro vals' hv hv'
   refine ⟨?_, trivial⟩
   show ∃ (b319 : Nat) (v400 : Value) (b423 : Nat), (vals' 6 = (.int .i64 ((((fiv.take 3).length - yd 2 (fiv.take 3) ([] : List Ev)) : Nat) : Int) : Value)) ∧ (vals' 13 = (.int .i64 ((((fiv.take 4).length - yd 2 (fiv.take 4) (fiv.take 3)) : Nat) : Int) : Value)) ∧ (vals' 30 = ((.slice (some ⟨b319, 0, none⟩) 4 4) : Value)) ∧ (vals' 31 = (.int .i64 ((([(fiv.getD 0 default), (fiv.getD 1 default), (fiv.getD 2 default), (fiv.getD 4 default)].length - yd 2 [(fiv.getD 0 default), (fiv.getD 1 default), (fiv.getD 2 default), (fiv.getD 4 default)] (fiv.take 4)) : Nat) : Int) : Value)) ∧ (vals' 36 = (v400 : Value)) ∧ (vals' 38 = ((.slice (some ⟨b423, 0, none⟩) 1 1) : Value)) ∧ Sep G48 w45 ((Blk b423 ((⟨0, 23, 4⟩ : Row).cells).toArray 44) :: (BaseO b34 dC 2 [(fiv.getD 0 default), (fiv.getD 1 default), (fiv.getD 2 default), (fiv.getD 4 default)]) :: (RowE (α := Row) own 44 v400 (yK dC [(fiv.getD 0 default), (fiv.getD 1 default), (fiv.getD 2 default), (fiv.getD 4 default)] 0)) :: (RowE (α := Ev) (shr G48 w45) 64 (.slice (some ⟨b319, 0, none⟩) 4 4) [(fiv.getD 0 default), (fiv.getD 1 default), (fiv.getD 2 default), (fiv.getD 4 default)]) :: (RowE (α := Fld) (shr G W) 88 (.slice (some ⟨bf2, 0, none⟩) 1 1) [(⟨1, 1, false, []⟩ : Fld)]) :: (RowE (α := Prj) own 46 (.slice (some ⟨bp3, 0, none⟩) 1 1) [(⟨0, 0, 1, 0, 2⟩ : Prj)]) :: Rs) w864
   exact ⟨b319, v400, b423, (by rw [hv' 6 (by decide)]; exact he109), (by rw [hv' 13 (by decide)]; exact he166), (by rw [hv' 30 (by decide)]; exact he322), (by rw [hv' 31 (by decide)]; exact he361), (by rw [hv' 36 (by decide)]; exact he404), hv, hS865⟩
 ·intro k866 vals w867 hk870 hW869 hA868
  have hk8702 : k866 ∈ [63] := hk870
  simp only [List.mem_cons, List.not_mem_nil, or_false] at hk8702
  subst hk8702
  obtain ⟨b319, v400, b423, he109, he166, he322, he361, he404, he426, hS871⟩ := hW869
  have e872 := hA868 34 (by decide)
  refine zz rfl rfl e872 (fun _ => ?_) (fun hb => absurd rfl hb)
  have e873 := hA868 34 (by decide)
  have hS874 := hS871.mv2
  obtain ⟨G875, hA877, hB878, hS879, hk880⟩ := hS874.lend
  have hrd881 := RowE.rd hA877
  have hrd881s : _ * 24 ≤ _ := hrd881.small
  have ok882 : Row.Ok (⟨0, 23, 4⟩ : Row) := ⟨(show InR (0) from (by decide)), (show InR (23) from (by decide)), (show InR (4) from (by decide))⟩
  have hS883 : Sep G875 w867 ((RowE (α := Row) own 44 (.slice (some ⟨b423, 0, none⟩) 1 1) [(⟨0, 23, 4⟩ : Row)]) :: (BaseO b34 dC 2 [(fiv.getD 0 default), (fiv.getD 1 default), (fiv.getD 2 default), (fiv.getD 4 default)]) :: (RowE (α := Ev) (shr G48 w45) 64 (.slice (some ⟨b319, 0, none⟩) 4 4) [(fiv.getD 0 default), (fiv.getD 1 default), (fiv.getD 2 default), (fiv.getD 4 default)]) :: (RowE (α := Fld) (shr G W) 88 (.slice (some ⟨bf2, 0, none⟩) 1 1) [(⟨1, 1, false, []⟩ : Fld)]) :: (RowE (α := Prj) own 46 (.slice (some ⟨bp3, 0, none⟩) 1 1) [(⟨0, 0, 1, 0, 2⟩ : Prj)]) :: Rs) w867 := Sep.blkRow (src := own) (l := [(⟨0, 23, 4⟩ : Row)]) (css := [(⟨0, 23, 4⟩ : Row).cells]) hS879 rfl ⟨fun _ _ => ⟨rfl, ok882⟩, trivial⟩ (by first | decide | (simp only [List.length_cons, List.length_nil]; decide)) (show 1 ≤ maxLen by decide)
  have hr884 := hS883.row (i := 0) rfl
  have hr884s : _ * 24 ≤ _ := hr884.2
  obtain ⟨G885, hA887, hB888, hS889, hk890⟩ := hS883.lend
  have hrd891 := RowE.rd hA887
  have hrd891s : _ * 24 ≤ _ := hrd891.small
  refine (zK (f := 29) (vals := [v400, (.slice (some ⟨b423, 0, none⟩) 1 1)]) (cap := []) rfl (yI ⟨he404, he426, trivial⟩) tR (Xf (a := (yK dC [(fiv.getD 0 default), (fiv.getD 1 default), (fiv.getD 2 default), (fiv.getD 4 default)] 0)) (va := v400) (b := [(⟨0, 23, 4⟩ : Row)]) (vb := (.slice (some ⟨b423, 0, none⟩) 1 1)) (RdS.base hrd881 hB888) hrd891 hS889) ?_)
  rintro _ w892 ⟨rfl, hS893⟩
  have hS894 := hk890 _ _ hS893
  have hS895 := hk880 _ _ hS894
  intro vals' hv hv'
  refine ⟨?_, trivial⟩
  show ∃ (b319 : Nat) (v400 : Value) (b423 : Nat), (vals' 6 = (.int .i64 ((((fiv.take 3).length - yd 2 (fiv.take 3) ([] : List Ev)) : Nat) : Int) : Value)) ∧ (vals' 13 = (.int .i64 ((((fiv.take 4).length - yd 2 (fiv.take 4) (fiv.take 3)) : Nat) : Int) : Value)) ∧ (vals' 30 = ((.slice (some ⟨b319, 0, none⟩) 4 4) : Value)) ∧ (vals' 31 = (.int .i64 ((([(fiv.getD 0 default), (fiv.getD 1 default), (fiv.getD 2 default), (fiv.getD 4 default)].length - yd 2 [(fiv.getD 0 default), (fiv.getD 1 default), (fiv.getD 2 default), (fiv.getD 4 default)] (fiv.take 4)) : Nat) : Int) : Value)) ∧ (vals' 36 = (v400 : Value)) ∧ (vals' 38 = ((.slice (some ⟨b423, 0, none⟩) 1 1) : Value)) ∧ (vals' 39 = (.bool (decide ((yK dC [(fiv.getD 0 default), (fiv.getD 1 default), (fiv.getD 2 default), (fiv.getD 4 default)] 0) = [(⟨0, 23, 4⟩ : Row)])) : Value)) ∧ Sep G48 w45 ((RowE (α := Row) own 44 v400 (yK dC [(fiv.getD 0 default), (fiv.getD 1 default), (fiv.getD 2 default), (fiv.getD 4 default)] 0)) :: (RowE (α := Row) own 44 (.slice (some ⟨b423, 0, none⟩) 1 1) [(⟨0, 23, 4⟩ : Row)]) :: (BaseO b34 dC 2 [(fiv.getD 0 default), (fiv.getD 1 default), (fiv.getD 2 default), (fiv.getD 4 default)]) :: (RowE (α := Ev) (shr G48 w45) 64 (.slice (some ⟨b319, 0, none⟩) 4 4) [(fiv.getD 0 default), (fiv.getD 1 default), (fiv.getD 2 default), (fiv.getD 4 default)]) :: (RowE (α := Fld) (shr G W) 88 (.slice (some ⟨bf2, 0, none⟩) 1 1) [(⟨1, 1, false, []⟩ : Fld)]) :: (RowE (α := Prj) own 46 (.slice (some ⟨bp3, 0, none⟩) 1 1) [(⟨0, 0, 1, 0, 2⟩ : Prj)]) :: Rs) w892
  exact ⟨b319, v400, b423, (by rw [hv' 6 (by decide)]; exact he109), (by rw [hv' 13 (by decide)]; exact he166), (by rw [hv' 30 (by decide)]; exact he322), (by rw [hv' 31 (by decide)]; exact he361), (by rw [hv' 36 (by decide)]; exact he404), (by rw [hv' 38 (by decide)]; exact he426), hv, hS895⟩
 ·intro k896 vals w897 hk900 hW899 hA898
  have hk9002 : k896 ∈ [127] := hk900
  simp only [List.mem_cons, List.not_mem_nil, or_false] at hk9002
  subst hk9002
  obtain ⟨b319, v400, b423, he109, he166, he322, he361, he404, he426, he464, hS901⟩ := hW899
  have e902 := hA898 34 (by decide)
  refine zz rfl rfl e902 (fun _ => ?_) (fun hb => absurd rfl hb)
  have hl903 : (!(decide ((yK dC [(fiv.getD 0 default), (fiv.getD 1 default), (fiv.getD 2 default), (fiv.getD 4 default)] 0) = [(⟨0, 23, 4⟩ : Row)]))) = false := by decide +kernel
  exact yF (a := decide ((yK dC [(fiv.getD 0 default), (fiv.getD 1 default), (fiv.getD 2 default), (fiv.getD 4 default)] 0) = [(⟨0, 23, 4⟩ : Row)])) he464 (fun vals' hv _ => ⟨rfl, hv.trans (congrArg Value.bool hl903)⟩)
 ·intro k904 vals w905 hk908 hW907 hA906
  have e909 := hA906 34 (by decide)
  have e910 := hA906 40 (by decide)
  refine obl rfl ?_
  exact yb (v := .bool false) e909 e910 (fun vals' hv _ => ⟨rfl, hv⟩)
 intro vals w911 hW912 hA913
 obtain ⟨b319, v400, b423, he109, he166, he322, he361, he404, he426, he464, hS914⟩ := hW912
 have e915 := hA913 41 (by decide)
 refine zX (kv := [(0, .bool false), (3, .agg #[(.slice (some ⟨bt1, 0, none⟩) 1 1), (.slice (some ⟨bp3, 0, none⟩) 1 1)]), (4, .pointer (some ⟨b34, 0, none⟩)), (1, .pointer (some ⟨b34, 0, none⟩)), (5, v44), (2, v44), (47, .bool false)]) ⟨rfl, rfl, rfl, rfl, rfl, rfl, (by exact e915), trivial⟩ (fun ρw911 => ?_)
 refine zb ?_
 refine zf rfl ?_
 refine zp ?_
 refine za ?_
 refine zI (by kernel_rfl) ?_
 refine st (zt (v := .pointer (some ⟨b34, 0, none⟩)) rfl ?_)
 refine st (zt (v := v44) rfl ?_)
 refine st (Ze (j := 2) (k := 10) (n := fiv.length) lT kT rfl hrd54.sl rfl (by first | omega | (simp only [Zq]; omega)) ?_)
 have h916 := RdS.sub_hi (j := 2) hrd54 (by first | omega | (simp only [List.length_drop, List.length_take]; omega))
 have h916s : _ * 96 ≤ _ := h916.small
 have hS917 := hS914.mv2
 refine st (zK (f := 13) (vals := [.pointer (some ⟨b34, 0, none⟩), (xk 10 v44 0 2)]) (cap := []) rfl rfl oT (xA (l := fiv.take 2) (vl := (xk 10 v44 0 2)) h916 (RdS.base hKN hB51) hS917 (Xw) (Yv) ((by decide +kernel)) ((by decide +kernel)) ((by decide +kernel))) ?_)
 rintro _ w918 ⟨rfl, hS919⟩
 refine st (zY (k := .i64) (a := ((((fiv.take 2).length - yd 2 (fiv.take 2) [(fiv.getD 0 default), (fiv.getD 1 default), (fiv.getD 2 default), (fiv.getD 4 default)]) : Nat) : Int)) (b := 0) rfl rfl ?_)
 have hkn920 : (decide (((((fiv.take 2).length - yd 2 (fiv.take 2) [(fiv.getD 0 default), (fiv.getD 1 default), (fiv.getD 2 default), (fiv.getD 4 default)]) : Nat) : Int) = 0)) = true := (by decide +kernel)
 rw [hkn920]
 refine st (zt (v := .bool true) rfl ?_)
 refine sty rfl rfl (zt (v := .pointer (some ⟨b34, 0, none⟩)) rfl ?_)
 refine sty rfl rfl (zt (v := v44) rfl ?_)
 refine sty rfl rfl (Ze (j := 1) (k := 10) (n := fiv.length) lT kT rfl hrd54.sl rfl (by first | omega | (simp only [Zq]; omega)) ?_)
 have h921 := RdS.sub_hi (j := 1) hrd54 (by first | omega | (simp only [List.length_drop, List.length_take]; omega))
 have h921s : _ * 96 ≤ _ := h921.small
 refine sty rfl rfl (zK (f := 13) (vals := [.pointer (some ⟨b34, 0, none⟩), (xk 10 v44 0 1)]) (cap := []) rfl rfl oT (xA (l := fiv.take 1) (vl := (xk 10 v44 0 1)) h921 (RdS.base hKN hB51) hS919 (Xw) (Yv) ((by decide +kernel)) ((by decide +kernel)) ((by decide +kernel))) ?_)
 rintro _ w922 ⟨rfl, hS923⟩
 refine sty rfl rfl (zY (k := .i64) (a := ((((fiv.take 1).length - yd 2 (fiv.take 1) (fiv.take 2)) : Nat) : Int)) (b := 1) rfl rfl ?_)
 have hkn924 : (decide (((((fiv.take 1).length - yd 2 (fiv.take 1) (fiv.take 2)) : Nat) : Int) = 1)) = true := (by decide +kernel)
 rw [hkn924]
 refine st (yo (v := .bool true) rfl rfl ?_)
 refine st (zt (v := .bool true) rfl ?_)
 refine sty rfl rfl (zt (v := .pointer (some ⟨b34, 0, none⟩)) rfl ?_)
 refine sty rfl rfl (zK (f := 13) (vals := [.pointer (some ⟨b34, 0, none⟩), (.slice none 0 0)]) (cap := []) rfl rfl oT (xA (l := ([] : List Ev)) (vl := (.slice none 0 0)) (RdS.nil _ _) (RdS.base hKN hB51) hS923 (Xw) (Yv) ((by decide +kernel)) ((by decide +kernel)) ((by decide +kernel))) ?_)
 rintro _ w925 ⟨rfl, hS926⟩
 refine sty rfl rfl (zY (k := .i64) (a := (((([] : List Ev).length - yd 2 ([] : List Ev) (fiv.take 1)) : Nat) : Int)) (b := 0) rfl rfl ?_)
 have hkn927 : (decide ((((([] : List Ev).length - yd 2 ([] : List Ev) (fiv.take 1)) : Nat) : Int) = 0)) = true := (by decide +kernel)
 rw [hkn927]
 refine st (yo (v := .bool true) rfl rfl ?_)
 refine st (zt (v := .bool true) rfl ?_)
 refine sty rfl rfl (zt (v := .pointer (some ⟨b34, 0, none⟩)) rfl ?_)
 refine sty rfl rfl (zK (f := 15) (vals := [.pointer (some ⟨b34, 0, none⟩)]) (cap := []) rfl rfl wT (Za  hS926) ?_)
 rintro v928 w929 ⟨_, rfl, hS930⟩
 have hr931 := hS930.row (i := 1) rfl
 have hr931s : _ * 120 ≤ _ := hr931.2
 refine sty rfl rfl (zB (n := (zn dC ([] : List Ev)).length) uR rfl hr931.1 ?_)
 refine sty rfl rfl (zY (k := .i64) (a := (((zn dC ([] : List Ev)).length : Nat) : Int)) (b := 0) rfl rfl ?_)
 have hkn932 : (decide ((((zn dC ([] : List Ev)).length : Nat) : Int) = 0)) = true := (by decide +kernel)
 rw [hkn932]
 refine st (yo (v := .bool true) rfl rfl ?_)
 refine st (zv (v := .bool true) rfl ?_)
 refine zb ?_
 refine zo ?_
 refine zR Tryz.results9 (show _ = (.bool true : Value) from rfl) ?_
 have hS933 := hk53 _ _ hS930
 have hS934 : Sep G W Rs w929 := hS933.sel 8 [] (Nat.le_add_left _ _) rfl rfl
 refine ⟨rfl, hS934⟩

section
variable {U : List Ev} {every k q : Nat}
theorem Kc {l : List Ev} : yd every l [] = 0 := by
  have h := (Vh (l := l) (m := [])).2
  have h0 : xN l [] = 0 := Nat.le_zero.1 h
  unfold yd
  rw [h0]; exact if_neg (Nat.lt_irrefl 0)
end
end Go.Proofs.YtojlbibionhdjaaGreatDoor
set_option maxRecDepth 8000
set_option maxHeartbeats 4000000
namespace Go.Proofs.YtojlbibionhdjaaGreatDoor
open Go.Proofs Go.RowKit

set_option maxHeartbeats 8000000 in
theorem Wx {G : Nat → Prop} {W w : World} {Rs : List HP} {d : Dcl} {dd0 : Value} (hdd0 : RdS W G dd0 d.types) {dd1 : Value} (hdd1 : RdS W G dd1 d.projs) (od : d.Ok) {n : Int} (hn : InR n) {every : Int} (hevery : InR every) {vl : Value} {l : List Ev} (hl : RdS W G vl l) {vt : Value} {t : List Trn} (ht : RdS W G vt t) (hKN : RdS W G (.slice (some ⟨0, 0, none⟩) 6 6) kindsL) (hS0 : Sep G W Rs w) : Ret Tryz.prog 6 [.agg (d.cells dd0 dd1).toArray, .int .i64 (n), .int .i64 (every), vl, vt] w (fun r w' => r = (.bool true : Value) ∧ Sep G W Rs w') := by
 have hdd0s : _ * 24 ≤ _ := hdd0.small
 have hdd1s : _ * 40 ≤ _ := hdd1.small
 have hls : _ * 96 ≤ _ := hl.small
 have hts : _ * 32 ≤ _ := ht.small
 have hKNs : _ * 8 ≤ _ := hKN.small
 refine zl (args := [.agg (d.cells dd0 dd1).toArray, Iv n, Iv every, vl, vt]) Tryz.func6 rfl rfl ?_
 refine za (R0 fun _ => st (zT (v := .agg (d.cells dd0 dd1).toArray) rfl ?_))
 intro w3 b2 gG
 let gH := Blk b2 (d.cells dd0 dd1).toArray 25
 have fm := hS0.new gG
 refine st (aS (.bool false) (zb (za (za (R0 fun _ => st (zg (k := 2) uT rT rfl rfl (CellsAt.all (fm.b0)) (st (cL Tryz.call8 (JC (d := d) hdd0 hdd1 od fm) ?_))))))))
 rintro _ w7 ⟨b5, rfl, gI, fn⟩
 refine st (yF (a := b5) rfl (zb ?_))
 cases bs : !b5
 have hc9r := bs
 try simp only [zi] at bs
 have ag := gI (by simpa using bs)
 refine zf rfl (zp (za (R0 fun _ => st (mV (Iv n) ?_))))
 refine st (cL sT (WY (x := n) (n := 64) hn yqi fn) ?_)
 rintro _ w12 ⟨ah, rfl, hq11, fr⟩
 have cv : InR ((1 + ah : Nat) : Int) := bo
 refine st (zQ (r := ((1 + ah : Nat) : Int)) (k := .i64) (a := 1) (b := ((ah : Nat) : Int)) rfl rfl (by rw [show (1 + ((ah : Nat) : Int) : Int) = ((1 + ah : Nat) : Int) from bo]; exact zC cv) (st (mV vl (st (cL Tryz.call10 (Jx (n := ((1 + ah : Nat) : Int)) (l := l) (vl := vl) cv hl fr) ?_)))))
 rintro aa fo ⟨_, bt, rfl, ho4017, ab, cw⟩
 have fs := cw.r0
 have hr21s : _ * 96 ≤ _ := fs.2
 refine st (aS aa (zb (za ?_)))
 obtain ⟨fp, ft, L, cx, fu⟩ := cw.lend
 have bu := RowE.rdB ft L
 have hrd28s : _ * 96 ≤ _ := bu.small
 refine R0 fun _ => st (zg (k := 2) uT rT rfl rfl (CellsAt.all (cx.b0)) (st (mV (Iv every) (st (cL oR (Xr (d := d) (every := every) (RdS.base hdd0 L) (RdS.base hdd1 L) od hevery (RdS.base hKN L) cx (ag.1)) ?_)))))
 rintro _ w32 ⟨H, Q, rfl, hev31, fv⟩
 refine st (aS (Ix H 0) (zb (za (za (R0 fun _ => st (mV (Ix H 0) (st (YB (b := H) (o := 0) pR rfl (zb (zf rfl (zp (za (za (R0 fun _ => st (aS (Iv 0) (zb (zr (zZ (fun mq σ M => ∃ (k : Nat) (E9 : List Ev) (ρ : Env), mq = t.length - k ∧ σ = yc ρ [(3, aa), (4, vt), (5, Ix b2 0), (10, .bool false), (11, Ix H 0), (12, Iw k)] ∧ (k ≤ t.length) ∧ (∀ x ∈ E9, x ∈ bt) ∧ (E9.length ≤ 40) ∧ Sep fp fo ((BaseO H d Q E9) :: (Blk b2 (d.cells dd0 dd1).toArray 25) :: Rs) M) ⟨0, [], _, rfl, sSf, Nat.zero_le _, (fun _ h => absurd h List.not_mem_nil), Nat.zero_le _, fv⟩ ?_))))))))))))))))))
 rintro m35 σ36 w34 ⟨k, E9, ρl1, rfl, rfl, hkk, fq, hEl9, bc⟩
 refine za (za (zI kr (st (mV (Iw k) (st (mV vt (st (zB (n := t.length) vR rfl (RdS.base ht L).sl (st (zL (k := .i64) (a := ((k : Nat) : Int)) (b := ((t.length : Nat) : Int)) rfl rfl (st (mV (.bool (decide (((k : Nat) : Int) < ((t.length : Nat) : Int)))) (stc (V := Iw k) rfl rfl (fun fw => ?_) ?_)))))))))))))
 have hl39 := tD fw
 exact mV (Iw k) ⟨rfl, rfl⟩
 refine stc (V := .bool (decide (((k : Nat) : Int) < 20))) rfl rfl (fun cy => ?_) ?_
 have hl41 := tD cy
 exact zL (k := .i64) (a := ((k : Nat) : Int)) (b := 20) (if_pos cy) rfl ⟨rfl, rfl⟩
 refine st (zD (b := decide (((k : Nat) : Int) < ((t.length : Nat) : Int))) (b' := decide (((k : Nat) : Int) < 20)) rfl (fun hbp => (if_pos hbp)) (zb ?_))
 cases bd : (decide (((k : Nat) : Int) < ((t.length : Nat) : Int))) && (decide (((k : Nat) : Int) < 20))
 have hc42r := bd
 try simp only [zi] at bd
 refine zf rfl (ya (zS (za (R0 fun _ => st (cL wR (Wa  (RdS.base hKN L) bc) ?_)))))
 rintro _ w43 ⟨rfl, fx⟩
 refine st (aS (.bool true) (zb (zo (zR kY (show _ = (.bool true : Value) from rfl) ?_))))
 have fy := fu _ _ fx
 refine ⟨rfl, (fy.s3_)⟩
 try simp only [zi] at bd
 refine zh rfl (zp (za (zr (za (R0 fun _ => st (mV aa (st (mV vt (st (mV (Iw k) ?_))))))))))
 have fz : k < t.length := bo
 refine st (ze (k := 4) (i := k) vR lY rfl (RdS.base ht L).sl rfl fz ?_)
 have be : k < t.length := bo
 obtain ⟨bv, ay⟩ := (RdS.base ht L).trn be
 rw [← zx default be] at bv ay
 have df := bc.cells bv ((RdS.base ht L).foot (ne_of_lt be))
 refine st (zg (k := 4) Tryz.isAgg38 lY rfl rfl df (st (cL Tryz.call14 (Kw (l := bt) (vl := aa) (t := (t.getD k default)) bu ay bc (om)) ?_)))
 rintro z O ⟨_, c, rfl, hxl53, X, cz⟩
 have fA := cz.r0
 have hr57s : _ * 96 ≤ _ := fA.2
 refine st (aS z (zb (za ?_)))
 obtain ⟨P, fB, U, fC, fE⟩ := cz.lend
 have p := RowE.rdB fB U
 have hrd64s : _ * 96 ≤ _ := p.small
 refine R0 fun _ => st (mV (Ix H 0) (st (mV z ?_)))
 refine st (cL oT (xA (l := c) (vl := z) p (RdS.base (RdS.base hKN L) U) fC (ag.1) (ag.2) ((by first | exact ab.one X fq | exact ab.one X (fun _ h => absurd h List.not_mem_nil))) ((by first | omega | (simp only [List.length_nil]; omega))) ((by omega))) ?_)
 rintro _ w65 ⟨rfl, cA⟩
 refine zb (za (R0 fun _ => st (zg (k := 2) uT rT rfl rfl (CellsAt.all (cA.b1)) (st (cL oR (Xr (d := d) (every := 1000) (RdS.base (RdS.base hdd0 L) U) (RdS.base (RdS.base hdd1 L) U) od dc (RdS.base (RdS.base hKN L) U) cA (ag.1)) ?_)))))
 rintro _ gJ ⟨K, fF, rfl, hev69, fG⟩
 refine st (aS (Ix K 0) (zb (za (za ?_))))
 obtain rfl : fF = 1000 := by omega
 have fH : Sep P O ((BaseO K d 1000 ([] : List Ev)) :: (BaseO H d Q c) :: gH :: Rs) gJ := fG
 have hA9 := Kc (every := 1000) (l := c)
 have hrl9 := xX d c
 refine zI kr (st (mV (Ix K 0) (st (YB (b := K) (o := 0) pR rfl (st (mV (.bool false) (sty rfl rfl (mV (Ix K 0) (sty rfl rfl (mV z ?_))))))))))
 refine sty rfl rfl (cL oT (xA (l := c) (vl := z) p (RdS.base (RdS.base hKN L) U) fH (ag.1) (ag.2) ((by first | exact ab.one X fq | exact ab.one X (fun _ h => absurd h List.not_mem_nil))) ((by first | omega | (simp only [List.length_nil]; omega))) ((by omega))) ?_)
 rintro _ w73 ⟨rfl, fI⟩
 refine sty rfl rfl (mV z (sty rfl rfl (zB (n := c.length) lT rfl p.sl (sty rfl rfl (yu (k := .i64) (a := (((c.length - yd 1000 c ([] : List Ev)) : Nat) : Int)) (b := ((c.length : Nat) : Int)) rfl rfl ?_)))))
 have dg : (!decide ((((c.length - yd 1000 c ([] : List Ev)) : Nat) : Int) = ((c.length : Nat) : Int))) = false := (by simp only [Bool.not_eq_false', decide_eq_true_eq]; omega)
 rw [dg]
 refine st (yb (v := .bool false) rfl rfl (st (mV (.bool false) (sty rfl rfl (mV (Ix H 0) (sty rfl rfl (cL wT (Za  (fI.mv1)) ?_)))))))
 rintro gK w78 ⟨_, rfl, cB⟩
 have fJ := cB.r1
 have hr80s : _ * 120 ≤ _ := fJ.2
 refine sty rfl rfl (mV (Ix K 0) (sty rfl rfl (cL wT (Za  (cB.mv2)) ?_)))
 rintro gL w83 ⟨_, rfl, cC⟩
 have fK := cC.r1
 have hr85s : _ * 120 ≤ _ := fK.2
 obtain ⟨G87, fL, hB90, fM, fN⟩ := (cC.mv3).lend
 have bw := RowE.rd fL
 have hrd93s : _ * 120 ≤ _ := bw.small
 obtain ⟨G95, fO, fP, fQ, dh⟩ := (fM.mv1).lend
 have az := RowE.rd fO
 have hrd101s : _ * 120 ≤ _ := az.small
 refine sty rfl rfl (cL Tryz.call22 (XO (a := (zn d c)) (va := gK) (b := (zn d c)) (vb := gL) (RdS.base bw fP) az fQ) ?_)
 rintro _ w102 ⟨rfl, di⟩
 have dj := dh _ _ di
 have dk := fN _ _ dj
 refine sty rfl rfl (yF (a := decide ((zn d c) = (zn d c))) rfl ?_)
 have cD : (!(decide ((zn d c) = (zn d c)))) = false := (by simp)
 rw [cD]
 refine st (yb (v := .bool false) rfl rfl (st (mV (.bool false) (sty rfl rfl (mV (Ix K 0) (sty rfl rfl (cL wT (Za  (dk.mv2)) ?_)))))))
 rintro v108 fR ⟨_, rfl, bx⟩
 have bz := bx.r1
 have hr111s : _ * 120 ≤ _ := bz.2
 refine sty rfl rfl (zB (n := (zn d c).length) uR rfl bz.1 (sty rfl rfl (mV z (sty rfl rfl (zB (n := c.length) lT rfl p.sl (sty rfl rfl (yu (k := .i64) (a := (((zn d c).length : Nat) : Int)) (b := ((c.length : Nat) : Int)) rfl rfl ?_)))))))
 have cE : (!decide ((((zn d c).length : Nat) : Int) = ((c.length : Nat) : Int))) = false := (by simp only [Bool.not_eq_false', decide_eq_true_eq]; omega)
 rw [cE]
 refine st (yb (v := .bool false) rfl rfl (zb (zf rfl (zp (za (za (R0 fun _ => st (aS (Iv 0) (zb (zr ?_))))))))))
 have dl : Sep P O ((BaseO H d Q c) :: (BaseO K d 1000 c) :: gH :: Rs) fR := bx.sel 6 [4, 0, 5] (Nat.le_add_left _ _) rfl rfl
 refine zZ (fun mq σ M => ∃ (N : Nat) (ρ : Env), mq = d.projs.length - N ∧ σ = yc ρ [(3, aa), (4, vt), (5, Ix b2 0), (10, .bool false), (11, Ix H 0), (12, Iw k), (13, z), (14, Ix K 0), (15, Iw N)] ∧ (N ≤ d.projs.length) ∧ Sep P O ((BaseO H d Q c) :: (BaseO K d 1000 c) :: (Blk b2 (d.cells dd0 dd1).toArray 25) :: Rs) M) ⟨0, _, rfl, sSf, Nat.zero_le _, dl⟩ ?_
 rintro m115 σ116 w114 ⟨N, ρl2, rfl, rfl, hkp9, am⟩
 refine za (za (R0 fun _ => st (mV (Iw N) (st (Zk rfl (st (lD dd1 Tryz.isAgg23 rfl (zd (am.b2) rfl) (st (zB (n := d.projs.length) rR rfl (RdS.base (RdS.base hdd1 L) U).sl (st (zL (k := .i64) (a := ((N : Nat) : Int)) (b := ((d.projs.length : Nat) : Int)) rfl rfl (zb ?_))))))))))))
 cases Y : decide (((N : Nat) : Int) < ((d.projs.length : Nat) : Int))
 have hc118r := Y
 have Y := fD Y
 refine zf rfl (ya (zS (za (R0 fun _ => st (aS (Iv 0) (zb (zr (zZ (fun mq σ M => ∃ (e : Nat) (ρ : Env), mq = c.length - e ∧ σ = yc ρ [(3, aa), (4, vt), (5, Ix b2 0), (10, .bool false), (11, Ix H 0), (12, Iw k), (13, z), (14, Ix K 0), (16, Iw e)] ∧ (e ≤ c.length) ∧ Sep P O ((BaseO H d Q c) :: (BaseO K d 1000 c) :: (Blk b2 (d.cells dd0 dd1).toArray 25) :: Rs) M) ⟨0, _, rfl, sSf, Nat.zero_le _, am⟩ ?_))))))))
 rintro m120 σ121 fS ⟨e, ρl3, rfl, rfl, hkj9, bA⟩
 let gM := Ix (sb z) (so z + e * 10)
 let de := (((c.getD e default).typ), ((c.getD e default).agg))
 refine za (za (R0 fun _ => st (mV (Iw e) (st (mV z (st (zB (n := c.length) lT rfl p.sl (st (zL (k := .i64) (a := ((e : Nat) : Int)) (b := ((c.length : Nat) : Int)) rfl rfl (zb ?_))))))))))
 cases Z : decide (((e : Nat) : Int) < ((c.length : Nat) : Int))
 have hc123r := Z
 have Z := fD Z
 refine zf rfl (ya (zS (R0 fun _ => st (mV (Iw k) ?_))))
 have dm : InR ((k + 1 : Nat) : Int) := bo
 refine st (zQ (r := ((k + 1 : Nat) : Int)) (k := .i64) (a := ((k : Nat) : Int)) (b := 1) rfl rfl (by rw [show (((k : Nat) : Int) + 1 : Int) = ((k + 1 : Nat) : Int) from bo]; exact zC dm) (st (aS (Iw (k + 1)) (zb ?_))))
 have dp := fE _ _ bA
 have dq : Sep fp fo ((BaseO H d Q c) :: gH :: Rs) fS := dp.sel 4 [1, 3] (Nat.le_add_left _ _) rfl rfl
 exact ⟨_, by omega, k + 1, c, _, rfl, sSf, by omega, X, by omega, dq⟩
 have Z := tD Z
 refine zh rfl (zp (za (zr (za ?_))))
 refine WD6 ((fun TT R => WF [fun vals M => Sep P O (R :: TT) M, fun vals M => ∃ (g : Value), (vals 11 = (.tuple #[.agg ((yp d de (zn d c)).cells g).toArray, .bool ((zj d (zn d c) de).isSome)] : Value)) ∧ Sep P O (R :: (RowE (α := Cel) own 107 g (stL d de (zn d c))) :: TT) M, fun vals M => ∃ (A : Nat), (vals 15 = (Ix A 0 : Value)) ∧ Sep P O ((Blk A #[Iv 0, (Iz)] 57) :: R :: TT) M, fun vals M => ∃ (g : Value) (A : Nat), (vals 11 = (.tuple #[.agg ((yp d de (zn d c)).cells g).toArray, .bool ((zj d (zn d c) de).isSome)] : Value)) ∧ (vals 15 = (Ix A 0 : Value)) ∧ Sep P O ((Blk A #[Iv 0, (Iz)] 57) :: R :: (RowE (α := Cel) own 107 g (stL d de (zn d c))) :: TT) M, fun _ _ => True, fun _ _ => True, fun _ _ => True, fun vals M => ∃ (g : Value) (A : Nat), (vals 11 = (.tuple #[.agg ((yp d de (zn d c)).cells g).toArray, .bool ((zj d (zn d c) de).isSome)] : Value)) ∧ (vals 15 = (Ix A 0 : Value)) ∧ Sep P O ((Blk A ((yp d de (zn d c)).cells g).toArray 57) :: R :: (RowE (α := Cel) own 107 g (stL d de (zn d c))) :: TT) M]) ((BaseO K d 1000 c) :: gH :: Rs) (BaseO H d Q c)) (AF [Vl 0 (Ix H 0), Vl 1 (z), Vl 2 (Iw e), Vl 3 gM, Vl 4 (Ix (sb z) (so z + e * 10 + 4)), Vl 5 (Iv ((c.getD e default).typ)), Vl 6 (z), Vl 7 (Iw e), Vl 8 gM, Vl 9 (Ix (sb z) (so z + e * 10 + 5)), Vl 10 (Iv ((c.getD e default).agg)), fun _ => True, fun vals => ∀ (g : Value), vals 11 = (.tuple #[.agg ((yp d de (zn d c)).cells g).toArray, .bool ((zj d (zn d c) de).isSome)] : Value) → vals 12 = (.tuple #[.agg ((yp d de (zn d c)).cells g).toArray, .bool ((zj d (zn d c) de).isSome)] : Value), fun vals => ∀ (g : Value), vals 11 = (.tuple #[.agg ((yp d de (zn d c)).cells g).toArray, .bool ((zj d (zn d c) de).isSome)] : Value) → vals 13 = (.agg ((yp d de (zn d c)).cells g).toArray : Value), Vl 14 (.bool ((zj d (zn d c) de).isSome)), fun _ => True, fun _ => True, Vl 17 (.bool ((zj d (zn d c) de).isSome))]) [[], [], [], [1, 2], [1, 2, 3], [1, 2, 3, 4], [], [], [6, 7], [6, 7, 8], [6, 7, 8, 9], (rg 11), (rg 12), (rg 13), (rg 13), [], [0, 1, 2, 3, 4, 5, 6, 7, 8, 9, 10, 11, 12, 13, 15], (rg 17)] [11, 15, 16] [[0, 2], [0, 2], [0, 2], [0, 2], [0, 2], [0, 2], [0, 2], [0, 2], [0, 2], [0, 2], [0, 2], [0, 2], [1, 3], [1, 3], [1, 3, 7], [0, 1], [3], [7]] bA ⟨fun _ _ _ _ _ _ => obl rfl (mV (Ix H 0) dR), fun _ _ _ _ _ _ => obl rfl (mV z dR), fun _ _ _ _ _ _ => obl rfl (mV (Iw e) dR), ?_, fun _ _ _ _ _ dr => obl rfl (xS (dr 3 dc) dR), ?_, fun _ _ _ _ _ _ => obl rfl (mV z dR), fun _ _ _ _ _ _ => obl rfl (mV (Iw e) dR), ?_, fun _ _ _ _ _ ds => obl rfl (ZS (ds 8 dc) dR), ?_, ?_, ?_, ?_, ?_, ?_, ?_, fun _ _ _ _ _ dt => obl rfl (zv (v := .bool ((zj d (zn d c) de).isSome)) (dt 14 dc) dR), trivial⟩ ?_ (hlocA := xf ⟨dA, dA, dA, dA, dA, dA, dA, dA, dA, dA, dA, dT, fun vals B F h => fun g E => (F 12 (.inl rfl)).trans (h g ((F 11 (.inr dc)).symm.trans E)), fun vals B F h => fun g E => (F 13 (.inl rfl)).trans (h g ((F 11 (.inr dc)).symm.trans E)), dA, dT, dT, dA, trivial⟩)
 intro fT vals w291 du bB ac
 have aA : fT ∈ [0, 2] := du
 simp only [List.mem_cons, List.not_mem_nil, or_false] at aA
 rcases aA with rfl | rfl
 have hS295 : Sep _ _ _ _ := bB
 refine obl rfl ?_
 have dv : e < c.length := bo
 exact ze (k := 10) (i := e) lT kT (ac 1 dc) p.sl (ac 2 dc) dv dR
 obtain ⟨A, I, hS299⟩ := bB
 refine obl rfl ?_
 have dw : e < c.length := bo
 exact ze (k := 10) (i := e) lT kT (ac 1 dc) p.sl (ac 2 dc) dw dR
 intro fU vals w310 dx bC bD
 have aB : fU ∈ [0, 2] := dx
 simp only [List.mem_cons, List.not_mem_nil, or_false] at aB
 rcases aB with rfl | rfl
 have dy : Sep _ _ _ _ := bC
 refine obl rfl ?_
 have bE : e < c.length := bo
 obtain ⟨cF, bf, hoke316⟩ := p.evD bE
 have hsm318 : ((c.getD e default).deps).length * 8 ≤ 140737488355328 := bf.small
 have cG := dy.cells cF (p.foot (ne_of_lt bE))
 exact lD (Iv ((c.getD e default).typ)) mT (bD 4 dc) (cG.get (j := 4) rfl) dR
 obtain ⟨A, I, dz⟩ := bC
 refine obl rfl ?_
 have bF : e < c.length := bo
 obtain ⟨cH, bg, hoke322⟩ := p.evD bF
 have hsm324 : ((c.getD e default).deps).length * 8 ≤ 140737488355328 := bg.small
 have cI := dz.cells cH (p.foot (ne_of_lt bF))
 exact lD (Iv ((c.getD e default).typ)) mT (bD 4 dc) (cI.get (j := 4) rfl) dR
 intro fV vals w337 dB bG ad
 have aC : fV ∈ [0, 2] := dB
 simp only [List.mem_cons, List.not_mem_nil, or_false] at aC
 rcases aC with rfl | rfl
 have hS341 : Sep _ _ _ _ := bG
 refine obl rfl ?_
 have dD : e < c.length := bo
 exact ze (k := 10) (i := e) lT kT (ad 6 dc) p.sl (ad 7 dc) dD dR
 obtain ⟨A, I, hS345⟩ := bG
 refine obl rfl ?_
 have dE : e < c.length := bo
 exact ze (k := 10) (i := e) lT kT (ad 6 dc) p.sl (ad 7 dc) dE dR
 intro fW vals w356 dF bH bI
 have aD : fW ∈ [0, 2] := dF
 simp only [List.mem_cons, List.not_mem_nil, or_false] at aD
 rcases aD with rfl | rfl
 have dG : Sep _ _ _ _ := bH
 refine obl rfl ?_
 have bJ : e < c.length := bo
 obtain ⟨cJ, bh, hoke362⟩ := p.evD bJ
 have hsm364 : ((c.getD e default).deps).length * 8 ≤ 140737488355328 := bh.small
 have cK := dG.cells cJ (p.foot (ne_of_lt bJ))
 exact lD (Iv ((c.getD e default).agg)) mT (bI 9 dc) (cK.get (j := 5) rfl) dR
 obtain ⟨A, I, dH⟩ := bH
 refine obl rfl ?_
 have bK : e < c.length := bo
 obtain ⟨cM, bi, hoke368⟩ := p.evD bK
 have hsm370 : ((c.getD e default).deps).length * 8 ≤ 140737488355328 := bi.small
 have cN := dH.cells cM (p.foot (ne_of_lt bK))
 exact lD (Iv ((c.getD e default).agg)) mT (bI 9 dc) (cN.get (j := 5) rfl) dR
 intro fX vals w373 dI bL S
 have aE : fX ∈ [0, 2] := dI
 simp only [List.mem_cons, List.not_mem_nil, or_false] at aE
 rcases aE with rfl | rfl
 have bM : Sep _ _ _ _ := bL
 refine obl rfl ?_
 have bN : e < c.length := bo
 obtain ⟨cO, bj, ai⟩ := p.evD bN
 have hsm383 : ((c.getD e default).deps).length * 8 ≤ 140737488355328 := bj.small
 have hcw384 := bM.cells cO (p.foot (ne_of_lt bN))
 refine (zK (f := 25) (vals := [Ix H 0, Iv ((c.getD e default).typ), Iv ((c.getD e default).agg)]) (cap := []) rfl (yI ⟨(S 0 dc), (S 5 dc), (S 10 dc), trivial⟩) kR (Yq (ty := (c.getD e default).typ) (no := (c.getD e default).agg) ai.typ ai.agg bM) ?_)
 rintro _ w386 ⟨g, rfl, bO⟩
 have dJ := bO.r1
 have hr388s : _ * 32 ≤ _ := dJ.2
 exact fun B F D => ⟨(Exists.intro g (And.intro F bO)), trivial⟩
 obtain ⟨A, I, bP⟩ := bL
 refine obl rfl ?_
 have bQ : e < c.length := bo
 obtain ⟨cP, bk, aj⟩ := p.evD bQ
 have hsm395 : ((c.getD e default).deps).length * 8 ≤ 140737488355328 := bk.small
 have hcw396 := bP.cells cP (p.foot (ne_of_lt bQ))
 refine (zK (f := 25) (vals := [Ix H 0, Iv ((c.getD e default).typ), Iv ((c.getD e default).agg)]) (cap := []) rfl (yI ⟨(S 0 dc), (S 5 dc), (S 10 dc), trivial⟩) kR (Yq (ty := (c.getD e default).typ) (no := (c.getD e default).agg) aj.typ aj.agg (bP.mv1)) ?_)
 rintro _ w399 ⟨g, rfl, bR⟩
 have dK := bR.r1
 have hr401s : _ * 32 ≤ _ := dK.2
 exact fun B F D => ⟨(Exists.intro g (Exists.intro A (And.intro F (And.intro ((D 15 dc).trans I) (bR.mv2))))), trivial⟩
 intro fY vals w404 dL bS hA405
 have aF : fY ∈ [1, 3] := dL
 simp only [List.mem_cons, List.not_mem_nil, or_false] at aF
 rcases aF with rfl | rfl
 obtain ⟨g, s, hS408⟩ := bS
 refine obl rfl (zt (v := .tuple #[.agg ((yp d de (zn d c)).cells g).toArray, .bool ((zj d (zn d c) de).isSome)]) s (fun B F D => ⟨rfl, ?_⟩))
 intro an E
 rw [D 11 (by decide)] at E; cases s.symm.trans E
 exact F
 obtain ⟨g, A, s, I, hS409⟩ := bS
 refine obl rfl (zt (v := .tuple #[.agg ((yp d de (zn d c)).cells g).toArray, .bool ((zj d (zn d c) de).isSome)]) s (fun B F D => ⟨rfl, ?_⟩))
 intro an E
 rw [D 11 (by decide)] at E; cases s.symm.trans E
 exact F
 intro fZ vals w411 dM bT bU
 have aG : fZ ∈ [1, 3] := dM
 simp only [List.mem_cons, List.not_mem_nil, or_false] at aG
 rcases aG with rfl | rfl
 obtain ⟨g, s, hS415⟩ := bT
 let gN := (yp d de (zn d c)).cells g
 have ga : vals 12 = (.tuple #[.agg gN.toArray, .bool ((zj d (zn d c) de).isSome)] : Value) := bU 12 dc g s
 refine obl rfl (zw (vs := [.agg gN.toArray, .bool ((zj d (zn d c) de).isSome)]) (i := 0) (v := .agg gN.toArray) ga rfl (fun B F D => ⟨rfl, ?_⟩))
 intro an E
 rw [D 11 (by decide)] at E; cases s.symm.trans E
 exact F
 obtain ⟨g, A, s, I, hS417⟩ := bT
 let gO := (yp d de (zn d c)).cells g
 have gc : vals 12 = (.tuple #[.agg gO.toArray, .bool ((zj d (zn d c) de).isSome)] : Value) := bU 12 dc g s
 refine obl rfl (zw (vs := [.agg gO.toArray, .bool ((zj d (zn d c) de).isSome)]) (i := 0) (v := .agg gO.toArray) gc rfl (fun B F D => ⟨rfl, ?_⟩))
 intro an E
 rw [D 11 (by decide)] at E; cases s.symm.trans E
 exact F
 intro gd vals w420 dN ao ap
 have aH : gd ∈ [1, 3, 7] := dN
 simp only [List.mem_cons, List.not_mem_nil, or_false] at aH
 rcases aH with rfl | rfl | rfl
 obtain ⟨g, s, hS424⟩ := ao
 have ge : vals 12 = (.tuple #[.agg ((yp d de (zn d c)).cells g).toArray, .bool ((zj d (zn d c) de).isSome)] : Value) := ap 12 dc g s
 exact obl rfl (zw (vs := [.agg ((yp d de (zn d c)).cells g).toArray, .bool ((zj d (zn d c) de).isSome)]) (i := 1) (v := .bool ((zj d (zn d c) de).isSome)) ge rfl dR)
 obtain ⟨g, A, s, I, hS426⟩ := ao
 have gf : vals 12 = (.tuple #[.agg ((yp d de (zn d c)).cells g).toArray, .bool ((zj d (zn d c) de).isSome)] : Value) := ap 12 dc g s
 exact obl rfl (zw (vs := [.agg ((yp d de (zn d c)).cells g).toArray, .bool ((zj d (zn d c) de).isSome)]) (i := 1) (v := .bool ((zj d (zn d c) de).isSome)) gf rfl dR)
 obtain ⟨g, A, s, I, hS428⟩ := ao
 have gg : vals 12 = (.tuple #[.agg ((yp d de (zn d c)).cells g).toArray, .bool ((zj d (zn d c) de).isSome)] : Value) := ap 12 dc g s
 exact obl rfl (zw (vs := [.agg ((yp d de (zn d c)).cells g).toArray, .bool ((zj d (zn d c) de).isSome)]) (i := 1) (v := .bool ((zj d (zn d c) de).isSome)) gg rfl dR)
 intro gh vals w431 dO bV hA432
 have aI : gh ∈ [0, 1] := dO
 simp only [List.mem_cons, List.not_mem_nil, or_false] at aI
 rcases aI with rfl | rfl
 have dP : Sep _ _ _ _ := bV
 refine obl rfl ((zH lR ?_))
 intro w438 A dQ
 exact fun B F D => ⟨(Exists.intro A (And.intro F (dP.new dQ))), trivial⟩
 obtain ⟨g, s, dS⟩ := bV
 refine obl rfl ((zH lR ?_))
 intro w443 A dU
 exact fun B F D => ⟨(Exists.intro g (Exists.intro A (And.intro ((D 11 dc).trans s) (And.intro F (dS.new dU))))), trivial⟩
 intro gi vals w446 dV dW dX
 have aJ : gi ∈ [3] := dV
 simp only [List.mem_cons, List.not_mem_nil, or_false] at aJ
 subst aJ
 obtain ⟨g, A, s, I, aq⟩ := dW
 let gP := (yp d de (zn d c)).cells g
 refine obl rfl ?_
 have gj : vals 13 = (.agg gP.toArray : Value) := dX 13 dc g s
 have bW := aq.r2
 have hr454s : _ * 32 ≤ _ := bW.2
 refine (zF (v := .agg gP.toArray) (c' := gP.toArray) mR I gj (aq.b0) (yg ⟨rfl, bW.1.one, trivial⟩) yqc rfl ?_)
 intro w452 dY
 exact fun B F D => ⟨(Exists.intro g (Exists.intro A (And.intro ((D 11 dc).trans s) (And.intro ((D 15 dc).trans I) (aq.pt0 dY))))), trivial⟩
 intro vals w462 dZ ea
 obtain ⟨g, A, s, I, eb⟩ := dZ
 have gk := ea 17 dc
 refine zX (kv := [(3, aa), (4, vt), (5, Ix b2 0), (10, .bool false), (11, Ix H 0), (12, Iw k), (13, z), (14, Ix K 0), (16, Iw e), (97, Iw e), (98, z), (99, Iw c.length), (100, .bool true), (17, Ix A 0), (18, .bool ((zj d (zn d c) de).isSome))]) ⟨rfl, rfl, rfl, rfl, rfl, rfl, rfl, rfl, rfl, rfl, rfl, rfl, rfl, (by exact I), (by exact gk), trivial⟩ (fun ρw462 => (zb (za ?_)))
 refine WD6 ((fun TT R aK aL aM => WF [fun vals M => Sep P O (R :: aK :: aL :: aM :: TT) M, fun vals M => ∃ (m : Value), (vals 11 = (.tuple #[.agg ((yp d de (zn d c)).cells m).toArray, .bool ((zj d (zn d c) de).isSome)] : Value)) ∧ Sep P O (aM :: (RowE (α := Cel) own 107 m (stL d de (zn d c))) :: R :: aK :: aL :: TT) M, fun vals M => ∃ (C : Nat), (vals 15 = (Ix C 0 : Value)) ∧ Sep P O ((Blk C #[Iv 0, (Iz)] 57) :: R :: aK :: aL :: aM :: TT) M, fun vals M => ∃ (m : Value) (C : Nat), (vals 11 = (.tuple #[.agg ((yp d de (zn d c)).cells m).toArray, .bool ((zj d (zn d c) de).isSome)] : Value)) ∧ (vals 15 = (Ix C 0 : Value)) ∧ Sep P O ((Blk C #[Iv 0, (Iz)] 57) :: aM :: (RowE (α := Cel) own 107 m (stL d de (zn d c))) :: R :: aK :: aL :: TT) M, fun _ _ => True, fun _ _ => True, fun _ _ => True, fun vals M => ∃ (m : Value) (C : Nat), (vals 11 = (.tuple #[.agg ((yp d de (zn d c)).cells m).toArray, .bool ((zj d (zn d c) de).isSome)] : Value)) ∧ (vals 15 = (Ix C 0 : Value)) ∧ Sep P O ((Blk C ((yp d de (zn d c)).cells m).toArray 57) :: aM :: (RowE (α := Cel) own 107 m (stL d de (zn d c))) :: R :: aK :: aL :: TT) M]) (gH :: Rs) (Blk A ((yp d de (zn d c)).cells g).toArray 57) (BaseO H d Q c) (RowE (α := Cel) own 107 g (stL d de (zn d c))) (BaseO K d 1000 c)) (AF [Vl 0 (Ix K 0), Vl 1 (z), Vl 2 (Iw e), Vl 3 gM, Vl 4 (Ix (sb z) (so z + e * 10 + 4)), Vl 5 (Iv ((c.getD e default).typ)), Vl 6 (z), Vl 7 (Iw e), Vl 8 gM, Vl 9 (Ix (sb z) (so z + e * 10 + 5)), Vl 10 (Iv ((c.getD e default).agg)), fun _ => True, fun vals => ∀ (m : Value), vals 11 = (.tuple #[.agg ((yp d de (zn d c)).cells m).toArray, .bool ((zj d (zn d c) de).isSome)] : Value) → vals 12 = (.tuple #[.agg ((yp d de (zn d c)).cells m).toArray, .bool ((zj d (zn d c) de).isSome)] : Value), fun vals => ∀ (m : Value), vals 11 = (.tuple #[.agg ((yp d de (zn d c)).cells m).toArray, .bool ((zj d (zn d c) de).isSome)] : Value) → vals 13 = (.agg ((yp d de (zn d c)).cells m).toArray : Value), Vl 14 (.bool ((zj d (zn d c) de).isSome)), fun _ => True, fun _ => True, Vl 17 (.bool ((zj d (zn d c) de).isSome))]) [[], [], [], [1, 2], [1, 2, 3], [1, 2, 3, 4], [], [], [6, 7], [6, 7, 8], [6, 7, 8, 9], (rg 11), (rg 12), (rg 13), (rg 13), [], [0, 1, 2, 3, 4, 5, 6, 7, 8, 9, 10, 11, 12, 13, 15], (rg 17)] [11, 15, 16] [[0, 2], [0, 2], [0, 2], [0, 2], [0, 2], [0, 2], [0, 2], [0, 2], [0, 2], [0, 2], [0, 2], [0, 2], [1, 3], [1, 3], [1, 3, 7], [0, 1], [3], [7]] eb ⟨fun _ _ _ _ _ _ => obl rfl (mV (Ix K 0) dR), fun _ _ _ _ _ _ => obl rfl (mV z dR), fun _ _ _ _ _ _ => obl rfl (mV (Iw e) dR), ?_, fun _ _ _ _ _ ec => obl rfl (xS (ec 3 dc) dR), ?_, fun _ _ _ _ _ _ => obl rfl (mV z dR), fun _ _ _ _ _ _ => obl rfl (mV (Iw e) dR), ?_, fun _ _ _ _ _ ed => obl rfl (ZS (ed 8 dc) dR), ?_, ?_, ?_, ?_, ?_, ?_, ?_, fun _ _ _ _ _ ee => obl rfl (zv (v := .bool ((zj d (zn d c) de).isSome)) (ee 14 dc) dR), trivial⟩ ?_ (hlocA := xf ⟨dA, dA, dA, dA, dA, dA, dA, dA, dA, dA, dA, dT, fun vals B F h => fun m E => (F 12 (.inl rfl)).trans (h m ((F 11 (.inr dc)).symm.trans E)), fun vals B F h => fun m E => (F 13 (.inl rfl)).trans (h m ((F 11 (.inr dc)).symm.trans E)), dA, dT, dT, dA, trivial⟩)
 intro gl vals w632 ef bX ae
 have aN : gl ∈ [0, 2] := ef
 simp only [List.mem_cons, List.not_mem_nil, or_false] at aN
 rcases aN with rfl | rfl
 have hS636 : Sep _ _ _ _ := bX
 refine obl rfl ?_
 have eg : e < c.length := bo
 exact ze (k := 10) (i := e) lT kT (ae 1 dc) p.sl (ae 2 dc) eg dR
 obtain ⟨C, J, hS640⟩ := bX
 refine obl rfl ?_
 have eh : e < c.length := bo
 exact ze (k := 10) (i := e) lT kT (ae 1 dc) p.sl (ae 2 dc) eh dR
 intro gm vals w651 ei bY bZ
 have aO : gm ∈ [0, 2] := ei
 simp only [List.mem_cons, List.not_mem_nil, or_false] at aO
 rcases aO with rfl | rfl
 have ej : Sep _ _ _ _ := bY
 refine obl rfl ?_
 have ca : e < c.length := bo
 obtain ⟨cQ, bl, hoke657⟩ := p.evD ca
 have hsm659 : ((c.getD e default).deps).length * 8 ≤ 140737488355328 := bl.small
 have cR := ej.cells cQ (p.foot (ne_of_lt ca))
 exact lD (Iv ((c.getD e default).typ)) mT (bZ 4 dc) (cR.get (j := 4) rfl) dR
 obtain ⟨C, J, ek⟩ := bY
 refine obl rfl ?_
 have cb : e < c.length := bo
 obtain ⟨cS, bm, hoke663⟩ := p.evD cb
 have hsm665 : ((c.getD e default).deps).length * 8 ≤ 140737488355328 := bm.small
 have cT := ek.cells cS (p.foot (ne_of_lt cb))
 exact lD (Iv ((c.getD e default).typ)) mT (bZ 4 dc) (cT.get (j := 4) rfl) dR
 intro gn vals w678 el cc af
 have aP : gn ∈ [0, 2] := el
 simp only [List.mem_cons, List.not_mem_nil, or_false] at aP
 rcases aP with rfl | rfl
 have hS682 : Sep _ _ _ _ := cc
 refine obl rfl ?_
 have em : e < c.length := bo
 exact ze (k := 10) (i := e) lT kT (af 6 dc) p.sl (af 7 dc) em dR
 obtain ⟨C, J, hS686⟩ := cc
 refine obl rfl ?_
 have en : e < c.length := bo
 exact ze (k := 10) (i := e) lT kT (af 6 dc) p.sl (af 7 dc) en dR
 intro go vals w697 eo cd ce
 have aQ : go ∈ [0, 2] := eo
 simp only [List.mem_cons, List.not_mem_nil, or_false] at aQ
 rcases aQ with rfl | rfl
 have er : Sep _ _ _ _ := cd
 refine obl rfl ?_
 have cf : e < c.length := bo
 obtain ⟨cU, bn, hoke703⟩ := p.evD cf
 have hsm705 : ((c.getD e default).deps).length * 8 ≤ 140737488355328 := bn.small
 have cV := er.cells cU (p.foot (ne_of_lt cf))
 exact lD (Iv ((c.getD e default).agg)) mT (ce 9 dc) (cV.get (j := 5) rfl) dR
 obtain ⟨C, J, es⟩ := cd
 refine obl rfl ?_
 have cg : e < c.length := bo
 obtain ⟨cW, bp, hoke709⟩ := p.evD cg
 have hsm711 : ((c.getD e default).deps).length * 8 ≤ 140737488355328 := bp.small
 have cX := es.cells cW (p.foot (ne_of_lt cg))
 exact lD (Iv ((c.getD e default).agg)) mT (ce 9 dc) (cX.get (j := 5) rfl) dR
 intro gp vals w714 et ch T
 have aR : gp ∈ [0, 2] := et
 simp only [List.mem_cons, List.not_mem_nil, or_false] at aR
 rcases aR with rfl | rfl
 have ci : Sep _ _ _ _ := ch
 refine obl rfl ?_
 have cj : e < c.length := bo
 obtain ⟨cY, bq, ak⟩ := p.evD cj
 have hsm724 : ((c.getD e default).deps).length * 8 ≤ 140737488355328 := bq.small
 have hcw725 := ci.cells cY (p.foot (ne_of_lt cj))
 refine (zK (f := 25) (vals := [Ix K 0, Iv ((c.getD e default).typ), Iv ((c.getD e default).agg)]) (cap := []) rfl (yI ⟨(T 0 dc), (T 5 dc), (T 10 dc), trivial⟩) kR (Yq (ty := (c.getD e default).typ) (no := (c.getD e default).agg) ak.typ ak.agg (ci.mv3)) ?_)
 rintro _ w728 ⟨m, rfl, ck⟩
 have eu := ck.r1
 have hr730s : _ * 32 ≤ _ := eu.2
 exact fun B F D => ⟨(Exists.intro m (And.intro F ck)), trivial⟩
 obtain ⟨C, J, cl⟩ := ch
 refine obl rfl ?_
 have cm : e < c.length := bo
 obtain ⟨cZ, br, al⟩ := p.evD cm
 have hsm737 : ((c.getD e default).deps).length * 8 ≤ 140737488355328 := br.small
 have hcw738 := cl.cells cZ (p.foot (ne_of_lt cm))
 refine (zK (f := 25) (vals := [Ix K 0, Iv ((c.getD e default).typ), Iv ((c.getD e default).agg)]) (cap := []) rfl (yI ⟨(T 0 dc), (T 5 dc), (T 10 dc), trivial⟩) kR (Yq (ty := (c.getD e default).typ) (no := (c.getD e default).agg) al.typ al.agg (cl.mv4)) ?_)
 rintro _ w741 ⟨m, rfl, cn⟩
 have ew := cn.r1
 have hr743s : _ * 32 ≤ _ := ew.2
 exact fun B F D => ⟨(Exists.intro m (Exists.intro C (And.intro F (And.intro ((D 15 dc).trans J) (cn.mv2))))), trivial⟩
 intro gq vals w746 ex co hA747
 have aT : gq ∈ [1, 3] := ex
 simp only [List.mem_cons, List.not_mem_nil, or_false] at aT
 rcases aT with rfl | rfl
 obtain ⟨m, u, hS750⟩ := co
 refine obl rfl (zt (v := .tuple #[.agg ((yp d de (zn d c)).cells m).toArray, .bool ((zj d (zn d c) de).isSome)]) u (fun B F D => ⟨rfl, ?_⟩))
 intro ar E
 rw [D 11 (by decide)] at E; cases u.symm.trans E
 exact F
 obtain ⟨m, C, u, J, hS751⟩ := co
 refine obl rfl (zt (v := .tuple #[.agg ((yp d de (zn d c)).cells m).toArray, .bool ((zj d (zn d c) de).isSome)]) u (fun B F D => ⟨rfl, ?_⟩))
 intro ar E
 rw [D 11 (by decide)] at E; cases u.symm.trans E
 exact F
 intro gr vals w753 ey cp cq
 have aU : gr ∈ [1, 3] := ey
 simp only [List.mem_cons, List.not_mem_nil, or_false] at aU
 rcases aU with rfl | rfl
 obtain ⟨m, u, hS757⟩ := cp
 let gQ := (yp d de (zn d c)).cells m
 have gs : vals 12 = (.tuple #[.agg gQ.toArray, .bool ((zj d (zn d c) de).isSome)] : Value) := cq 12 dc m u
 refine obl rfl (zw (vs := [.agg gQ.toArray, .bool ((zj d (zn d c) de).isSome)]) (i := 0) (v := .agg gQ.toArray) gs rfl (fun B F D => ⟨rfl, ?_⟩))
 intro ar E
 rw [D 11 (by decide)] at E; cases u.symm.trans E
 exact F
 obtain ⟨m, C, u, J, hS759⟩ := cp
 let gR := (yp d de (zn d c)).cells m
 have gt : vals 12 = (.tuple #[.agg gR.toArray, .bool ((zj d (zn d c) de).isSome)] : Value) := cq 12 dc m u
 refine obl rfl (zw (vs := [.agg gR.toArray, .bool ((zj d (zn d c) de).isSome)]) (i := 0) (v := .agg gR.toArray) gt rfl (fun B F D => ⟨rfl, ?_⟩))
 intro ar E
 rw [D 11 (by decide)] at E; cases u.symm.trans E
 exact F
 intro gu vals w762 ez au av
 have aV : gu ∈ [1, 3, 7] := ez
 simp only [List.mem_cons, List.not_mem_nil, or_false] at aV
 rcases aV with rfl | rfl | rfl
 obtain ⟨m, u, hS766⟩ := au
 have gv : vals 12 = (.tuple #[.agg ((yp d de (zn d c)).cells m).toArray, .bool ((zj d (zn d c) de).isSome)] : Value) := av 12 dc m u
 exact obl rfl (zw (vs := [.agg ((yp d de (zn d c)).cells m).toArray, .bool ((zj d (zn d c) de).isSome)]) (i := 1) (v := .bool ((zj d (zn d c) de).isSome)) gv rfl dR)
 obtain ⟨m, C, u, J, hS768⟩ := au
 have gw : vals 12 = (.tuple #[.agg ((yp d de (zn d c)).cells m).toArray, .bool ((zj d (zn d c) de).isSome)] : Value) := av 12 dc m u
 exact obl rfl (zw (vs := [.agg ((yp d de (zn d c)).cells m).toArray, .bool ((zj d (zn d c) de).isSome)]) (i := 1) (v := .bool ((zj d (zn d c) de).isSome)) gw rfl dR)
 obtain ⟨m, C, u, J, hS770⟩ := au
 have gx : vals 12 = (.tuple #[.agg ((yp d de (zn d c)).cells m).toArray, .bool ((zj d (zn d c) de).isSome)] : Value) := av 12 dc m u
 exact obl rfl (zw (vs := [.agg ((yp d de (zn d c)).cells m).toArray, .bool ((zj d (zn d c) de).isSome)]) (i := 1) (v := .bool ((zj d (zn d c) de).isSome)) gx rfl dR)
 intro gy vals w773 eA cr hA774
 have aW : gy ∈ [0, 1] := eA
 simp only [List.mem_cons, List.not_mem_nil, or_false] at aW
 rcases aW with rfl | rfl
 have eB : Sep _ _ _ _ := cr
 refine obl rfl ((zH lR ?_))
 intro w780 C eC
 exact fun B F D => ⟨(Exists.intro C (And.intro F (eB.new eC))), trivial⟩
 obtain ⟨m, u, eD⟩ := cr
 refine obl rfl ((zH lR ?_))
 intro w785 C eE
 exact fun B F D => ⟨(Exists.intro m (Exists.intro C (And.intro ((D 11 dc).trans u) (And.intro F (eD.new eE))))), trivial⟩
 intro gz vals w788 eF eG eH
 have aX : gz ∈ [3] := eF
 simp only [List.mem_cons, List.not_mem_nil, or_false] at aX
 subst aX
 obtain ⟨m, C, u, J, aw⟩ := eG
 let gS := (yp d de (zn d c)).cells m
 refine obl rfl ?_
 have gA : vals 13 = (.agg gS.toArray : Value) := eH 13 dc m u
 have cs := aw.r2
 have hr796s : _ * 32 ≤ _ := cs.2
 refine (zF (v := .agg gS.toArray) (c' := gS.toArray) mR J gA (aw.b0) (yg ⟨rfl, cs.1.one, trivial⟩) yqc rfl ?_)
 intro w794 eI
 exact fun B F D => ⟨(Exists.intro m (Exists.intro C (And.intro ((D 11 dc).trans u) (And.intro ((D 15 dc).trans J) (aw.pt0 eI))))), trivial⟩
 intro vals w804 eJ eK
 obtain ⟨m, C, u, J, ax⟩ := eJ
 have gB := eK 17 dc
 refine zX (kv := [(3, aa), (4, vt), (5, Ix b2 0), (10, .bool false), (11, Ix H 0), (12, Iw k), (13, z), (14, Ix K 0), (16, Iw e), (97, Iw e), (98, z), (99, Iw c.length), (100, .bool true), (17, Ix A 0), (18, .bool ((zj d (zn d c) de).isSome)), (19, Ix C 0), (20, .bool ((zj d (zn d c) de).isSome))]) ⟨rfl, rfl, rfl, rfl, rfl, rfl, rfl, rfl, rfl, rfl, rfl, rfl, rfl, rfl, rfl, (by exact J), (by exact gB), trivial⟩ (fun ρw804 => (zb (za (zI kr (st (mV (.bool ((zj d (zn d c) de).isSome)) (st (mV (.bool ((zj d (zn d c) de).isSome)) ?_))))))))
 refine st (UP (a := (zj d (zn d c) de).isSome) (b := (zj d (zn d c) de).isSome) Tryz.underlying4 rfl rfl ?_)
 have da : (!(((zj d (zn d c) de).isSome) == ((zj d (zn d c) de).isSome))) = false := (by simp)
 rw [da]
 refine st (mV (.bool false) (sty rfl rfl (zg (k := 2) mY mR rfl rfl (CellsAt.all (ax.b3)) (sty rfl rfl (zg (k := 2) mY mR rfl rfl (CellsAt.all (ax.b0)) ?_)))))
 obtain ⟨G811, eL, hB814, eM, eN⟩ := (ax.mv5).lend
 have aY := RowE.rd eL
 have hrd817s : _ * 32 ≤ _ := aY.small
 obtain ⟨G819, eO, eP, eQ, eR⟩ := (eM.mv2).lend
 have aZ := RowE.rd eO
 have hrd825s : _ * 32 ≤ _ := aZ.small
 refine sty rfl rfl (cL Tryz.call27 (Vx (x := (yp d (((c.getD e default).typ), ((c.getD e default).agg)) (zn d c))) (y := (yp d (((c.getD e default).typ), ((c.getD e default).agg)) (zn d c))) (RdS.base aY eP) (KM (by rw [xX]; omega)) aZ (KM (by rw [xX]; omega)) eQ) ?_)
 rintro _ gC ⟨rfl, eS⟩
 have eT := eR _ _ eS
 have eU := eN _ _ eT
 refine sty rfl rfl (yF (a := decide ((yp d de (zn d c)) = (yp d de (zn d c)))) rfl ?_)
 have db : (!(decide ((yp d de (zn d c)) = (yp d de (zn d c))))) = false := (by simp)
 rw [db]
 refine st (yb (v := .bool false) rfl rfl (zb (zf rfl (zp (R0 fun _ => st (mV (Iw e) ?_))))))
 have eV : InR ((e + 1 : Nat) : Int) := bo
 refine st (zQ (r := ((e + 1 : Nat) : Int)) (k := .i64) (a := ((e : Nat) : Int)) (b := 1) rfl rfl (by rw [show (((e : Nat) : Int) + 1 : Int) = ((e + 1 : Nat) : Int) from bo]; exact zC eV) (st (aS (Iw (e + 1)) (zb ?_))))
 have eW : Sep P O ((BaseO H d Q c) :: (BaseO K d 1000 c) :: gH :: Rs) gC := eU.sel 7 [5, 3, 6] (Nat.le_add_left _ _) rfl rfl
 exact ⟨_, by omega, e + 1, _, rfl, sSf, by omega, eW⟩
 have Y := tD Y
 refine zh rfl (zp (za (zr (za (R0 fun _ => st (mV (Ix H 0) (st (mV (Iw N) (st (cL vT (YS (q := ((N : Nat) : Int)) om am (om)) ?_))))))))))
 rintro gD w834 ⟨_, rfl, ct⟩
 have eX := ct.r1
 have hr836s : _ * 24 ≤ _ := eX.2
 refine st (mV (Ix K 0) (st (mV (Iw N) (st (cL vT (YS (q := ((N : Nat) : Int)) om (ct.mv2) (om)) ?_)))))
 rintro gE w839 ⟨_, rfl, cu⟩
 have eY := cu.r1
 have hr841s : _ * 24 ≤ _ := eY.2
 obtain ⟨G843, eZ, hB846, fa, fb⟩ := (cu.mv3).lend
 have ba := RowE.rd eZ
 have hrd849s : _ * 24 ≤ _ := ba.small
 obtain ⟨G851, fc, fd, fe, ff⟩ := (fa.mv1).lend
 have bb := RowE.rd fc
 have hrd857s : _ * 24 ≤ _ := bb.small
 refine st (cL tR (Xf (a := (yK d c ((N : Nat) : Int))) (va := gD) (b := (yK d c ((N : Nat) : Int))) (vb := gE) (RdS.base ba fd) bb fe) ?_)
 rintro _ gF ⟨rfl, fg⟩
 have fh := ff _ _ fg
 have fi := fb _ _ fh
 refine st (yF (a := decide ((yK d c ((N : Nat) : Int)) = (yK d c ((N : Nat) : Int)))) rfl ?_)
 have dd : (!(decide ((yK d c ((N : Nat) : Int)) = (yK d c ((N : Nat) : Int))))) = false := (by simp)
 rw [dd]
 refine zb (zf rfl (zp (R0 fun _ => st (mV (Iw N) ?_))))
 have fj : InR ((N + 1 : Nat) : Int) := bo
 refine st (zQ (r := ((N + 1 : Nat) : Int)) (k := .i64) (a := ((N : Nat) : Int)) (b := 1) rfl rfl (by rw [show (((N : Nat) : Int) + 1 : Int) = ((N + 1 : Nat) : Int) from bo]; exact zC fj) (st (aS (Iw (N + 1)) (zb ?_))))
 have fk : Sep P O ((BaseO H d Q c) :: (BaseO K d 1000 c) :: gH :: Rs) gF := fi.sel 5 [3, 2, 4] (Nat.le_add_left _ _) rfl rfl
 exact ⟨_, by omega, N + 1, _, rfl, sSf, by omega, fk⟩
 try simp only [zi] at bs
 refine zh rfl (za (R0 fun _ => st (cL wR (Wa  hKN fn) ?_)))
 rintro _ w865 ⟨rfl, fl⟩
 refine st (aS (.bool true) (zb (zo (zR kY (show _ = (.bool true : Value) from rfl) ?_))))
 refine ⟨rfl, (fl.s1_)⟩

theorem Wk {w : World} {d : Dcl} {dd0 dd1 : Value} (h0 : RdS w (yW w) dd0 d.types) (h1 : RdS w (yW w) dd1 d.projs) (od : d.Ok) {n0 : Int} (hn0 : InR n0) {n1 : Int} (hn1 : InR n1) {vl : Value} {l : List Ev} (hl : RdS w (yW w) vl l) {vt : Value} {t : List Trn} (ht : RdS w (yW w) vt t) (hK : RdS w (yW w) (.slice (some ⟨0, 0, none⟩) 6 6) kindsL) : Ret Tryz.prog 6 [.agg (d.cells dd0 dd1).toArray, .int .i64 n0, .int .i64 n1, vl, vt] w (fun r w' => r = .bool true ∧ Ext w w') :=
  Ret.mono (Wx h0 h1 od hn0 hn1 hl ht hK (Sep.start w)) (fun r w' h => ⟨h.1, h.2.fin⟩)
end Go.Proofs.YtojlbibionhdjaaGreatDoor
