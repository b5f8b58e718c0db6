import Derived.Test.YtlblilbmpdejgaaDoorV8
import Derived.Test.YtlblilbmpdejgaaDoorV7
set_option linter.unusedSimpArgs false
set_option linter.unusedVariables false
set_option linter.unusedSectionVars false
set_option linter.deprecated false
set_option maxRecDepth 8000
set_option maxHeartbeats 4000000
open Go.Proofs.Tryd renaming isAgg3 → lT, sizeOf42 → mT, underlying66 → nT, sizeOf59 → oT, sizeOf62 → pT, underlying26 → qT, underlying47 → rT, isAgg42 → sT, isAgg25 → tT, sizeOf25 → uT, underlying40 → vT, sizeOf3 → wT, results91 → lR, isAgg59 → mR, sizeOf79 → nR, results50 → oR, sizeOf115 → pR, isAgg40 → qR, isAgg4 → rR, call38 → sR, underlying51 → tR, call36 → uR, call21 → vR, sizeOf68 → wR, isAgg31 → lY, underlying31 → mY, call13 → nY, zeroValue59 → oY, isAgg57 → pY, sizeOf57 → qY, results99 → rY, isAgg79 → sY, zeroValue79 → tY, zeroValue42 → uY, isAgg77 → vY, underlying77 → wY, sizeOf40 → lA, call20 → mA, call22 → nA, results5 → pA, call31 → qA, call32 → rA, zeroValue68 → sA, isAgg68 → tA, results7 → uA
namespace Go.Proofs.YtlblilbmpdejgaaDoor
open Go.Proofs Go.RowKit

theorem WX {a b : Int} (h1 : InR a) (h2 : InR b) : xC (a + b) = a + b ∨ (9223372036854775808 ≤ a + b ∧ xC (a + b) = a + b - 18446744073709551616) ∨ (a + b < -9223372036854775808 ∧ xC (a + b) = a + b + 18446744073709551616) := by
  unfold xC
  rw [IntKind.wrap_i64]
  omega
theorem rem_t {l : List Int} {k : Nat} {n : Int} (hk : k < l.length) (h : ¬ l.getD k 0 = n) : xN (l.take (k + 1)) n = xN (l.take k) n ++ [l.getD k 0] := by unfold xN; rw [List.take_getD hk, List.filter_append]; simp only [List.filter_cons, List.filter_nil]; rw [if_pos (by simpa using h)]
theorem rem_f {l : List Int} {k : Nat} {n : Int} (hk : k < l.length) (h : l.getD k 0 = n) : xN (l.take (k + 1)) n = xN (l.take k) n := by unfold xN; rw [List.take_getD (d := 0) hk, List.filter_append]; simp only [List.filter_cons, List.filter_nil]; rw [if_neg (by simpa using h)]; simp
theorem Kt {l : List Int} {n : Int} : (xN l n).length ≤ l.length := List.length_filter_le _ _
theorem KR {fl : Fld} {cs : List Cel} {c : Cel} {arg : Int} (h1 : InR c.n) (h2 : InR arg) : yZ fl cs c 1 arg = (((!((decide (0 ≤ c.n) && decide (0 ≤ arg)) && decide (IntKind.i64.wrap (c.n + arg) < 0))) && (!((decide (c.n < 0) && decide (arg < 0)) && decide (0 ≤ IntKind.i64.wrap (c.n + arg))))) && (!(fl.floor && decide (IntKind.i64.wrap (c.n + arg) < 0)))) := by
  have hs := ZC (c.n + arg)
  have hw : xC (c.n + arg) = c.n + arg ∨ (9223372036854775808 ≤ c.n + arg ∧ xC (c.n + arg) = c.n + arg - 18446744073709551616) ∨ (c.n + arg < -9223372036854775808 ∧ xC (c.n + arg) = c.n + arg + 18446744073709551616) := WX h1 h2
  unfold yZ
  rw [if_pos rfl]
  show _ = (((!((decide (0 ≤ c.n) && decide (0 ≤ arg)) && decide (xC (c.n + arg) < 0))) && (!((decide (c.n < 0) && decide (arg < 0)) && decide (0 ≤ xC (c.n + arg))))) && (!(fl.floor && decide (xC (c.n + arg) < 0))))
  generalize xC (c.n + arg) = s at *
  congr 1
  rw [Bool.eq_iff_iff]
  simp only [Bool.or_eq_true, Bool.and_eq_true, Bool.not_eq_true', decide_eq_true_eq, beq_iff_eq, Bool.and_eq_false_iff, decide_eq_false_iff_not, decide_eq_decide]
  omega
theorem KP {fl : Fld} {cs : List Cel} {c : Cel} {arg : Int} : yZ fl cs c 3 arg = (decide (((c.set.length : Nat) : Int) < 64) || decide (arg ∈ c.set)) := by
  unfold yZ; rw [if_neg (by decide), if_pos rfl, Bool.or_comm]
theorem KL {fl : Fld} {cs : List Cel} {c : Cel} {arg : Int} : yZ fl cs c 5 arg = (decide (c.n = (Zj fl arg).frm) && (decide ((Zj fl arg).need < 0) || decide ((Zj fl arg).least ≤ (yi cs (Zj fl arg).need).n))) := by
  unfold yZ; rw [if_neg (by decide), if_neg (by decide), if_pos rfl]
theorem may_o {fl : Fld} {cs : List Cel} {c : Cel} {op arg : Int} (h1 : ¬ op = 1) (h3 : ¬ op = 3) (h5 : ¬ op = 5) : yZ fl cs c op arg = true := by
  unfold yZ; rw [if_neg h1, if_neg h3, if_neg h5]
theorem Xh {G : Nat → Prop} {W w : World} {Rs : List HP} {t : Typ} {dt0 : Value} (hdt0 : RdS W G dt0 t.fields) (ot : t.Ok) (hS0 : Sep G W Rs w) : Ret Tryd.prog 64 [.agg (t.cells dt0).toArray] w (fun r w' => ∃ (v : Value), r = (v : Value) ∧ Sep G W ((RowE (α := Cel) own 42 v (List.replicate t.fields.length (⟨0, []⟩ : Cel))) :: Rs) w') := by
 have hdt0s : _ * 48 ≤ _ := hdt0.small
 refine zl (args := [.agg (t.cells dt0).toArray]) Tryd.func64 rfl rfl ?_
 refine za (R0 fun _ => st (zR (v := .agg (t.cells dt0).toArray) rfl ?_))
 intro w3 b2 e
 have c := hS0.new e
 refine st (aS (Iz) (zb (za (R0 fun _ => st (yv rfl (st (lD dt0 lY rfl (zd (c.b0) rfl) (st (zA (n := t.fields.length) mY rfl hdt0.sl (st (Zp (α := Cel) (T := 42) (bytes := 32) (n := t.fields.length) (x1 := (⟨0, []⟩ : Cel)) qT ⟨_, _, rfl, rfl, rfl, rfl, rfl, fun _ _ => ⟨_, rfl, RdS.nil _ _, ⟨by decide⟩⟩⟩ rfl rfl rfl (by show t.fields.length * 32 ≤ 140737488355328; omega) ?_)))))))))))
 intro f b g he7 hl8 h
 let i := Iy b t.fields.length t.fields.length
 have a : Sep G W ((RowE (α := Cel) own 42 i (List.replicate t.fields.length (⟨0, []⟩ : Cel))) :: (Blk b2 (t.cells dt0).toArray 33) :: Rs) f := c.made g h
 have d := a.r0
 have hr12s : _ * 32 ≤ _ := d.2
 refine st (aS i (zb (zm (zL Tryd.results64 (show _ = (i : Value) from rfl) ?_))))
 refine ⟨i, rfl, (a.s2_a)⟩

theorem UE {G : Nat → Prop} {W w : World} {Rs : List HP} {vl : Value} {l : List Int} (hl : RdS W G vl l) {n : Int} (hn : InR n) (hS0 : Sep G W Rs w) (hfew : l.length ≤ 1000) : Ret Tryd.prog 76 [vl, .int .i64 (n)] w (fun r w' => ∃ (v : Value), r = (v : Value) ∧ Sep G W ((RowE (α := Int) own 3 v (xN l n)) :: Rs) w') := by
 have hls : _ * 8 ≤ _ := hl.small
 refine zl (args := [vl, Iv n]) Tryd.func76 rfl rfl ?_
 refine za (R0 fun _ => st (aS (Iz) (zb (za (R0 fun _ => st (aS (Iz) (zb (za (za (R0 fun _ => st (aS (Iv 0) (zb (zn ?_)))))))))))))
 have E : Sep G W ((RowE (α := Int) own 3 (Iz) ([] : List Int)) :: Rs) w := hS0.rowNil own 3
 refine zX (fun mq σ J => ∃ (k : Nat) (vo : Value) (ρ : Env), mq = l.length - k ∧ σ = yb ρ [(0, vl), (1, Iv n), (6, Iw k), (5, vo)] ∧ (k ≤ l.length) ∧ Sep G W ((RowE (α := Int) own 3 vo (xN (l.take k) n)) :: Rs) J) ⟨0, (Iz), _, rfl, sSf, Nat.zero_le _, E⟩ ?_
 rintro m3 σ4 w2 ⟨k, vo, ρl1, rfl, rfl, hkk, e⟩
 have F := e.r0
 have hr6s : _ * 8 ≤ _ := F.2
 have hrl := Kt (l := l.take k) (n := n)
 rw [List.length_take] at hrl
 refine za (za (R0 fun _ => st (mV (Iw k) (st (mV vl (st (zA (n := l.length) vT rfl hl.sl (st (zD (k := .i64) (a := ((k : Nat) : Int)) (b := ((l.length : Nat) : Int)) rfl rfl (zb ?_))))))))))
 cases h : decide (((k : Nat) : Int) < ((l.length : Nat) : Int))
 have h := fD h
 have H : k = l.length := by omega
 rw [H, List.take_length] at e
 refine zi rfl (zU (zI (za (R0 fun _ => st (mV vo (st (aS vo (zb (zm (zL Tryd.results76 (show _ = (vo : Value) from rfl) ?_))))))))))
 refine ⟨vo, rfl, e⟩
 have h := tD h
 refine zj rfl (zk (za (zn (za (R0 fun _ => st (mV vl (st (mV (Iw k) ?_))))))))
 have I : k < l.length := bo
 refine st (ze (k := 1) (i := k) vT wT rfl hl.sl rfl I ?_)
 have f : k < l.length := bo
 obtain ⟨m, u⟩ := hl.intD f
 have p := e.cells m (hl.foot (ne_of_lt f))
 refine st (lD (Iv ((l.getD k 0))) lT rfl (p.get (j := 0) rfl) (st (mV (Iv n) (st (yh (k := .i64) (a := (l.getD k 0)) (b := n) rfl rfl (zb ?_))))))
 cases d : !decide ((l.getD k 0) = n)
 have d := zB d
 refine zi rfl (zk (R0 fun _ => st (mV (Iw k) ?_)))
 have x : InR ((k + 1 : Nat) : Int) := bo
 refine st (zH (r := ((k + 1 : Nat) : Int)) (k := .i64) (a := ((k : Nat) : Int)) (b := 1) rfl rfl (by rw [show (((k : Nat) : Int) + 1 : Int) = ((k + 1 : Nat) : Int) from bo]; exact zz x) (st (aS (Iw (k + 1)) (zb ?_))))
 have y : (xN (l.take (k + 1)) n) = (xN (l.take k) n) := (rem_f om d)
 rw [← y] at e
 exact ⟨_, by omega, k + 1, vo, _, rfl, sSf, by omega, e⟩
 have d := zM d
 refine zj rfl (R0 fun _ => st (mV vo (st (mV vl (st (mV (Iw k) ?_))))))
 have z : k < l.length := bo
 refine st (ze (k := 1) (i := k) vT wT rfl hl.sl rfl z ?_)
 have q := e.cells m (hl.foot (ne_of_lt f))
 refine st (lD (Iv ((l.getD k 0))) lT rfl (q.get (j := 0) rfl) (st (zu (k := 1) (parts' := [(0, Iv ((l.getD k 0)))]) (c := #[Iv ((l.getD k 0))]) vT wT Tryd.zeroValue3 dc rfl kr ?_)))
 intro w20 b19 A
 have o := e.new A
 have s := o.b0
 refine st (yj (src := own) (bytes := 8) (x1 := (l.getD k 0)) ((o.s2_b).emp1) VS rfl rfl s (fun _ _ _ => (show _ from ⟨rfl, u⟩)) yqb rfl ?_)
 intro t w22 g
 have B := g.r0
 have hr28s : _ * 8 ≤ _ := B.2
 refine st (aS t (zb (R0 fun _ => st (mV (Iw k) ?_))))
 have C : InR ((k + 1 : Nat) : Int) := bo
 refine st (zH (r := ((k + 1 : Nat) : Int)) (k := .i64) (a := ((k : Nat) : Int)) (b := 1) rfl rfl (by rw [show (((k : Nat) : Int) + 1 : Int) = ((k + 1 : Nat) : Int) from bo]; exact zz C) (st (aS (Iw (k + 1)) (zb ?_))))
 have D : (xN (l.take (k + 1)) n) = (xN (l.take k) n) ++ [(l.getD k 0)] := (rem_t om d)
 rw [← D] at g
 exact ⟨_, by omega, k + 1, t, _, rfl, sSf, by omega, g⟩

theorem Kn {G : Nat → Prop} {W w : World} {Rs : List HP} {vl : Value} {l : List Int} (hl : RdS W G vl l) {n : Int} (hn : InR n) (hS0 : Sep G W Rs w) : Ret Tryd.prog 99 [vl, .int .i64 (n)] w (fun r w' => r = (.bool (decide (n ∈ l)) : Value) ∧ Sep G W Rs w') := by
 have hls : _ * 8 ≤ _ := hl.small
 refine zl (args := [vl, Iv n]) Tryd.func99 rfl rfl ?_
 refine za (R0 fun _ => st (aS (.bool false) (zb (za (za (R0 fun _ => st (aS (Iv 0) (zb (zn (zX (fun mq σ q => ∃ (k : Nat) (ρ : Env), mq = l.length - k ∧ σ = yb ρ [(0, vl), (1, Iv n), (5, Iw k)] ∧ (k ≤ l.length) ∧ (∀ i, i < k → ¬ l.getD i 0 = n) ∧ Sep G W Rs q) ⟨0, _, rfl, sSf, Nat.zero_le _, (fun i h => absurd h (Nat.not_lt_zero i)), hS0⟩ ?_))))))))))
 rintro m2 σ3 w1 ⟨k, ρl1, rfl, rfl, hkk, hm, d⟩
 refine za (za (R0 fun _ => st (mV (Iw k) (st (mV vl (st (zA (n := l.length) vT rfl hl.sl (st (zD (k := .i64) (a := ((k : Nat) : Int)) (b := ((l.length : Nat) : Int)) rfl rfl (zb ?_))))))))))
 cases e : decide (((k : Nat) : Int) < ((l.length : Nat) : Int))
 have e := fD e
 refine zi rfl (zU (zI (za (R0 fun _ => st (aS (.bool false) (zb (zm (zL rY (show _ = (.bool false : Value) from rfl) ?_))))))))
 refine ⟨?_, d⟩
 rw [decide_eq_false (Wl (fun i hi => hm i (by omega)))]
 have e := tD e
 refine zj rfl (zk (za (zn (za (R0 fun _ => st (mV vl (st (mV (Iw k) ?_))))))))
 have p : k < l.length := bo
 refine st (ze (k := 1) (i := k) vT wT rfl hl.sl rfl p ?_)
 have f : k < l.length := bo
 obtain ⟨g, hxe7⟩ := hl.intD f
 have m := d.cells g (hl.foot (ne_of_lt f))
 refine st (lD (Iv ((l.getD k 0))) lT rfl (m.get (j := 0) rfl) (st (mV (Iv n) (st (zF (k := .i64) (a := (l.getD k 0)) (b := n) rfl rfl (zb ?_))))))
 cases c : decide ((l.getD k 0) = n)
 have c := fD c
 refine zi rfl (zk (R0 fun _ => st (mV (Iw k) ?_)))
 have o : InR ((k + 1 : Nat) : Int) := bo
 refine st (zH (r := ((k + 1 : Nat) : Int)) (k := .i64) (a := ((k : Nat) : Int)) (b := 1) rfl rfl (by rw [show (((k : Nat) : Int) + 1 : Int) = ((k + 1 : Nat) : Int) from bo]; exact zz o) (st (aS (Iw (k + 1)) (zb ?_))))
 exact ⟨_, by omega, k + 1, _, rfl, sSf, by omega, (xb hm c), d⟩
 have c := tD c
 refine zj rfl (za (R0 fun _ => st (aS (.bool true) (zb (zm (zL rY (show _ = (.bool true : Value) from rfl) ?_))))))
 refine ⟨?_, d⟩
 rw [decide_eq_true (QO (by omega) c)]

theorem WR {G : Nat → Prop} {W w : World} {Rs : List HP} {t : Typ} {dt0 : Value} (hdt0 : RdS W G dt0 t.fields) (ot : t.Ok) {vc : Value} {c : List Cel} (hc : RdS W G vc c) {fi : Int} (hfi : InR fi) {op : Int} (hop : InR op) {arg : Int} (harg : InR arg) (hS0 : Sep G W Rs w) (hask : YD t c fi op arg) : Ret Tryd.prog 91 [.agg (t.cells dt0).toArray, vc, .int .i64 (fi), .int .i64 (op), .int .i64 (arg)] w (fun r w' => r = (.int .i64 ((yY t c fi op arg)) : Value) ∧ Sep G W Rs w') := by
 let ci := (((t.fields.getD fi.toNat default).moves).getD arg.toNat default).cells
 let ch := zy W (sb dt0) (so dt0 + fi.toNat * 4 + 3)
 let cj := (t.fields.getD fi.toNat default).cells ch
 let ce := zy W (sb vc) (so vc + fi.toNat * 2 + 1)
 let ck := (c.getD fi.toNat default).cells ce
 have hdt0s : _ * 48 ≤ _ := hdt0.small
 have hcs : _ * 32 ≤ _ := hc.small
 have ha0 := hask.1
 have ha1 := hask.2.1
 have ha2 := hask.2.2.1
 refine zl (args := [.agg (t.cells dt0).toArray, vc, Iv fi, Iv op, Iv arg]) Tryd.func91 rfl rfl ?_
 refine za (R0 fun _ => st (zR (v := .agg (t.cells dt0).toArray) rfl ?_))
 intro w3 b2 cg
 have aK := hS0.new cg
 refine st (aS (Iv 0) (zb (za (R0 fun _ => st (yv rfl (st (lD dt0 lY rfl (zd (aK.b0) rfl) (st (mV (Iv fi) ?_)))))))))
 have hi5 : fi.toNat < t.fields.length := bo
 refine st (zq (k := 4) (i := fi) mY nR rfl hdt0.sl rfl ⟨by omega, by omega⟩ ?_)
 have bU : fi.toNat < t.fields.length := bo
 obtain ⟨bW, x, hoke6⟩ := hdt0.fldD bU
 have hsm8 : ((t.fields.getD fi.toNat default).moves).length * 32 ≤ 140737488355328 := x.small
 have bX := aK.cells bW (hdt0.foot (ne_of_lt bU))
 refine st (zg (k := 4) sY nR rfl rfl bX (st (zr tY ?_)))
 intro w12 af bY
 have aL := aK.new bY
 refine stn (zp (v := .agg cj.toArray) (c' := cj.toArray) nR rfl rfl (aL.b0) (zW ⟨rfl, rfl, rfl, x.sl.one, trivial⟩) yqc rfl ?_)
 intro w14 bZ
 have aM := aL.pt0 bZ
 refine zb (za (R0 fun _ => st (mV vc (st (mV (Iv fi) ?_)))))
 have hi17 : fi.toNat < c.length := bo
 refine st (zq (k := 2) (i := fi) qT mT rfl hc.sl rfl ⟨by omega, by omega⟩ ?_)
 have aN : fi.toNat < c.length := bo
 obtain ⟨aU, z, ag⟩ := hc.celD aN
 have hsm20 : ((c.getD fi.toNat default).set).length * 8 ≤ 140737488355328 := z.small
 have aV := aM.cells aU (hc.foot (ne_of_lt aN))
 refine st (zg (k := 2) sT mT rfl rfl aV (st (zr uY ?_)))
 intro w24 U ca
 have aO := aM.new ca
 refine stn (zp (v := .agg ck.toArray) (c' := ck.toArray) mT rfl rfl (aO.b0) (zW ⟨rfl, z.sl.one, trivial⟩) yqc rfl ?_)
 intro w26 cb
 have g := aO.pt0 cb
 refine zb (za (R0 fun _ => st (aS (.bool true) (zb (za (za (R0 fun _ => st (mV (Iv op) (zb (zn (za (R0 fun _ => st (zF (k := .i64) (a := op) (b := 1) rfl rfl (st (aS (.bool (decide (op = 1))) (zb ?_))))))))))))))))
 cases B : decide (op = 1)
 have hc29r := B
 have B := fD B
 refine zi rfl (za (R0 fun _ => st (zF (k := .i64) (a := op) (b := 3) rfl rfl (st (aS (.bool (decide (op = 3))) (zb ?_))))))
 cases C : decide (op = 3)
 have hc30r := C
 have C := fD C
 refine zi rfl (za (R0 fun _ => st (zF (k := .i64) (a := op) (b := 5) rfl rfl (st (aS (.bool (decide (op = 5))) (zb ?_))))))
 cases y : decide (op = 5)
 have hc31r := y
 have y := fD y
 refine zi rfl (zk (za (za (R0 fun _ => st (mV (.bool true) (zb (zj rfl (za (R0 fun _ => st (aS (Iv 0) (zb (zm (zL lR (show _ = (Iv 0 : Value) from rfl) ?_)))))))))))))
 refine ⟨?_, (g.s3_)⟩
 congr 1
 have o : yZ (yK t fi) c (yi c fi) op arg = true := may_o om om om
 unfold yY
 rw [o]; rfl
 have y := tD y
 have bV := hask.2.2.2.2 y
 have ha51 : arg < (t.fields.getD fi.toNat default).moves.length := bV.2.1
 have ha52 : ((t.fields.getD fi.toNat default).moves.getD arg.toNat default).need < 0 ∨ ((t.fields.getD fi.toNat default).moves.getD arg.toNat default).need < c.length := bV.2.2
 refine zj rfl (za (R0 fun _ => st (yu rfl (st (lD ch vY rfl (zd (g.b1) rfl) (st (mV (Iv arg) ?_)))))))
 have hi33 : arg.toNat < ((t.fields.getD fi.toNat default).moves).length := bo
 refine st (zq (k := 4) (i := arg) wY pR rfl x.sl rfl ⟨by omega, by omega⟩ ?_)
 have aP : arg.toNat < ((t.fields.getD fi.toNat default).moves).length := bo
 obtain ⟨aW, hoke34⟩ := x.mvD aP
 have aX := g.cells aW (x.foot (ne_of_lt aP))
 refine st (zg (k := 4) Tryd.isAgg115 pR rfl rfl aX (st (zr Tryd.zeroValue115 ?_)))
 intro w39 X cc
 have aQ := g.new cc
 refine stn (zp (v := .agg ci.toArray) (c' := ci.toArray) pR rfl rfl (aQ.b0) (zW ⟨rfl, rfl, rfl, rfl, trivial⟩) yqc rfl ?_)
 intro w41 cd
 refine zb ?_
 refine WD4 (WF [fun vals wq => Sep G W ((Blk X ci.toArray 115) :: (Blk U ck.toArray 42) :: (Blk af cj.toArray 79) :: (Blk b2 (t.cells dt0).toArray 33) :: Rs) wq]) (AF [Vl 0 (Ix U 0), Vl 1 (Iv ((c.getD fi.toNat default).n)), Vl 2 (Ix X 0), Vl 3 (Iv ((((t.fields.getD fi.toNat default).moves).getD arg.toNat default).frm)), Vl 4 (.bool (decide (((c.getD fi.toNat default).n) = ((((t.fields.getD fi.toNat default).moves).getD arg.toNat default).frm)))), Vl 5 (.bool (decide (((c.getD fi.toNat default).n) = ((((t.fields.getD fi.toNat default).moves).getD arg.toNat default).frm)))), Vl 6 (if (decide (((c.getD fi.toNat default).n) = ((((t.fields.getD fi.toNat default).moves).getD arg.toNat default).frm))) = true then Ix X 2 else undef), Vl 7 (if (decide (((c.getD fi.toNat default).n) = ((((t.fields.getD fi.toNat default).moves).getD arg.toNat default).frm))) = true then Iv ((((t.fields.getD fi.toNat default).moves).getD arg.toNat default).need) else undef), Vl 8 (if (decide (((c.getD fi.toNat default).n) = ((((t.fields.getD fi.toNat default).moves).getD arg.toNat default).frm))) = true then .bool (decide (((((t.fields.getD fi.toNat default).moves).getD arg.toNat default).need) < 0)) else undef), Vl 9 (if (decide (((c.getD fi.toNat default).n) = ((((t.fields.getD fi.toNat default).moves).getD arg.toNat default).frm))) = true then .bool (decide (((((t.fields.getD fi.toNat default).moves).getD arg.toNat default).need) < 0)) else undef), Vl 10 (if ((decide (((c.getD fi.toNat default).n) = ((((t.fields.getD fi.toNat default).moves).getD arg.toNat default).frm))) = true) ∧ (decide (((((t.fields.getD fi.toNat default).moves).getD arg.toNat default).need) < 0)) = false then vc else undef), Vl 11 (if ((decide (((c.getD fi.toNat default).n) = ((((t.fields.getD fi.toNat default).moves).getD arg.toNat default).frm))) = true) ∧ (decide (((((t.fields.getD fi.toNat default).moves).getD arg.toNat default).need) < 0)) = false then Ix X 2 else undef), Vl 12 (if ((decide (((c.getD fi.toNat default).n) = ((((t.fields.getD fi.toNat default).moves).getD arg.toNat default).frm))) = true) ∧ (decide (((((t.fields.getD fi.toNat default).moves).getD arg.toNat default).need) < 0)) = false then Iv ((((t.fields.getD fi.toNat default).moves).getD arg.toNat default).need) else undef), Vl 13 (if ((decide (((c.getD fi.toNat default).n) = ((((t.fields.getD fi.toNat default).moves).getD arg.toNat default).frm))) = true) ∧ (decide (((((t.fields.getD fi.toNat default).moves).getD arg.toNat default).need) < 0)) = false then Ix (sb vc) (so vc + (((((t.fields.getD fi.toNat default).moves).getD arg.toNat default).need).toNat) * 2) else undef), Vl 14 (if ((decide (((c.getD fi.toNat default).n) = ((((t.fields.getD fi.toNat default).moves).getD arg.toNat default).frm))) = true) ∧ (decide (((((t.fields.getD fi.toNat default).moves).getD arg.toNat default).need) < 0)) = false then Ix (sb vc) (so vc + (((((t.fields.getD fi.toNat default).moves).getD arg.toNat default).need).toNat) * 2) else undef), Vl 15 (if ((decide (((c.getD fi.toNat default).n) = ((((t.fields.getD fi.toNat default).moves).getD arg.toNat default).frm))) = true) ∧ (decide (((((t.fields.getD fi.toNat default).moves).getD arg.toNat default).need) < 0)) = false then Iv ((c.getD (((((t.fields.getD fi.toNat default).moves).getD arg.toNat default).need).toNat) default).n) else undef), Vl 16 (if ((decide (((c.getD fi.toNat default).n) = ((((t.fields.getD fi.toNat default).moves).getD arg.toNat default).frm))) = true) ∧ (decide (((((t.fields.getD fi.toNat default).moves).getD arg.toNat default).need) < 0)) = false then Ix X 3 else undef), Vl 17 (if ((decide (((c.getD fi.toNat default).n) = ((((t.fields.getD fi.toNat default).moves).getD arg.toNat default).frm))) = true) ∧ (decide (((((t.fields.getD fi.toNat default).moves).getD arg.toNat default).need) < 0)) = false then Iv ((((t.fields.getD fi.toNat default).moves).getD arg.toNat default).least) else undef), Vl 18 (if ((decide (((c.getD fi.toNat default).n) = ((((t.fields.getD fi.toNat default).moves).getD arg.toNat default).frm))) = true) ∧ (decide (((((t.fields.getD fi.toNat default).moves).getD arg.toNat default).need) < 0)) = false then .bool (decide (((((t.fields.getD fi.toNat default).moves).getD arg.toNat default).least) ≤ ((c.getD (((((t.fields.getD fi.toNat default).moves).getD arg.toNat default).need).toNat) default).n))) else undef), Vl 19 (if (decide (((c.getD fi.toNat default).n) = ((((t.fields.getD fi.toNat default).moves).getD arg.toNat default).frm))) = true then .bool ((decide (((((t.fields.getD fi.toNat default).moves).getD arg.toNat default).need) < 0)) || (decide (((((t.fields.getD fi.toNat default).moves).getD arg.toNat default).least) ≤ ((c.getD (((((t.fields.getD fi.toNat default).moves).getD arg.toNat default).need).toNat) default).n)))) else undef), Vl 20 (.bool ((decide (((c.getD fi.toNat default).n) = ((((t.fields.getD fi.toNat default).moves).getD arg.toNat default).frm))) && ((decide (((((t.fields.getD fi.toNat default).moves).getD arg.toNat default).need) < 0)) || (decide (((((t.fields.getD fi.toNat default).moves).getD arg.toNat default).least) ≤ ((c.getD (((((t.fields.getD fi.toNat default).moves).getD arg.toNat default).need).toNat) default).n)))))), Vl 21 (.bool ((decide (((c.getD fi.toNat default).n) = ((((t.fields.getD fi.toNat default).moves).getD arg.toNat default).frm))) && ((decide (((((t.fields.getD fi.toNat default).moves).getD arg.toNat default).need) < 0)) || (decide (((((t.fields.getD fi.toNat default).moves).getD arg.toNat default).least) ≤ ((c.getD (((((t.fields.getD fi.toNat default).moves).getD arg.toNat default).need).toNat) default).n))))))]) [[], [0], [], [2], (rg 4), (rg 5), (rg 6), (rg 7), (rg 8), (rg 9), (rg 10), (rg 10), [0, 1, 2, 3, 4, 5, 6, 7, 8, 9, 11], (rg 13), (rg 14), (rg 15), (rg 10), [0, 1, 2, 3, 4, 5, 6, 7, 8, 9, 16], (rg 18), (rg 19), (rg 20), (rg 21)] [] [(0, 0), (0, 0), (0, 0), (0, 0), (0, 0), (0, 0), (0, 0), (0, 0), (0, 0), (0, 0), (0, 0), (0, 0), (0, 0), (0, 0), (0, 0), (0, 0), (0, 0), (0, 0), (0, 0), (0, 0), (0, 0), (0, 0)] (aQ.pt0 cd) ⟨fun _ _ _ _ _ _ _ => obl rfl (yL rfl dR), ob1 0 fun _ _ (aY : Sep _ _ _ _) aZ => obl rfl (lD (Iv ((c.getD fi.toNat default).n)) lT (aZ 0 dc) (zd (aY.b1) rfl) dR), fun _ _ _ _ _ _ _ => obl rfl (Wz rfl dR), ob1 0 fun _ _ (ba : Sep _ _ _ _) bb => obl rfl (lD (Iv ((((t.fields.getD fi.toNat default).moves).getD arg.toNat default).frm)) lT (bb 2 dc) (zd (ba.b0) rfl) dR), ob1 0 fun _ _ _ ai => obl rfl (zF (k := .i64) (a := (c.getD fi.toNat default).n) (b := (((t.fields.getD fi.toNat default).moves).getD arg.toNat default).frm) (ai 1 dc) (ai 3 dc) dR), fun _ _ _ _ _ _ bc => obl rfl (zP (v := .bool (decide (((c.getD fi.toNat default).n) = ((((t.fields.getD fi.toNat default).moves).getD arg.toNat default).frm)))) (bc 4 dc) dR), ?_, ?_, ?_, ?_, ?_, ?_, ?_, ?_, ?_, ?_, ?_, ?_, ?_, ?_, ?_, fun _ _ _ _ _ _ bd => obl rfl (ym (v := .bool ((decide (((c.getD fi.toNat default).n) = ((((t.fields.getD fi.toNat default).moves).getD arg.toNat default).frm))) && ((decide (((((t.fields.getD fi.toNat default).moves).getD arg.toNat default).need) < 0)) || (decide (((((t.fields.getD fi.toNat default).moves).getD arg.toNat default).least) ≤ ((c.getD (((((t.fields.getD fi.toNat default).moves).getD arg.toNat default).need).toNat) default).n)))))) (bd 20 dc) dR), trivial⟩ ?_
 refine fun _ _ _ _ _ _ be => (zC rfl rfl (be 5 dc) (fun K => ?_) (fun K => fun d e _ => ⟨trivial, e.trans (if_neg K).symm⟩))
 have hl315 := tD K
 exact Zr rfl (fun d e _ => ⟨rfl, e.trans (if_pos K).symm⟩)
 refine ob1 0 fun _ _ (bf : Sep _ _ _ _) aj => (zC rfl rfl (aj 5 dc) (fun D => ?_) (fun D => fun d e _ => ⟨trivial, e.trans (if_neg D).symm⟩))
 have hl326 := tD D
 exact lD (Iv ((((t.fields.getD fi.toNat default).moves).getD arg.toNat default).need)) lT (Eq.trans (aj 6 dc) (if_pos D)) (zd (bf.b0) rfl) (fun d e _ => ⟨rfl, e.trans (if_pos D).symm⟩)
 refine ob1 0 fun _ _ _ ak => (zC rfl rfl (ak 5 dc) (fun E => ?_) (fun E => fun d e _ => ⟨trivial, e.trans (if_neg E).symm⟩))
 have hl337 := tD E
 exact zD (k := .i64) (a := (((t.fields.getD fi.toNat default).moves).getD arg.toNat default).need) (b := 0) (Eq.trans (ak 7 dc) (if_pos E)) rfl (fun d e _ => ⟨rfl, e.trans (if_pos E).symm⟩)
 refine fun _ _ _ _ _ _ al => (zC rfl rfl (al 5 dc) (fun F => ?_) (fun F => fun d e _ => ⟨trivial, e.trans (if_neg F).symm⟩))
 have hl347 := tD F
 exact zP (v := .bool (decide (((((t.fields.getD fi.toNat default).moves).getD arg.toNat default).need) < 0))) (Eq.trans (al 8 dc) (if_pos F)) (fun d e _ => ⟨rfl, e.trans (if_pos F).symm⟩)
 refine fun _ _ _ _ _ _ bg => (yy rfl rfl (bg 9 dc) (fun H => ?_) (fun H => fun d e _ => ⟨trivial, e.trans (if_neg H).symm⟩))
 have hl356 := tD H.1
 have hl357 := fD H.2
 exact mV vc (fun d e _ => ⟨rfl, e.trans (if_pos H).symm⟩)
 refine fun _ _ _ _ _ _ bh => (yy rfl rfl (bh 9 dc) (fun I => ?_) (fun I => fun d e _ => ⟨trivial, e.trans (if_neg I).symm⟩))
 have hl366 := tD I.1
 have hl367 := fD I.2
 exact Zr rfl (fun d e _ => ⟨rfl, e.trans (if_pos I).symm⟩)
 refine ob1 0 fun _ _ (bi : Sep _ _ _ _) am => (yy rfl rfl (am 9 dc) (fun p => ?_) (fun p => fun d e _ => ⟨trivial, e.trans (if_neg p).symm⟩))
 have hl378 := tD p.1
 have hl379 := fD p.2
 exact lD (Iv ((((t.fields.getD fi.toNat default).moves).getD arg.toNat default).need)) lT (Eq.trans (am 11 dc) (if_pos ⟨p.1, p.2⟩)) (zd (bi.b0) rfl) (fun d e _ => ⟨rfl, e.trans (if_pos p).symm⟩)
 refine ob1 0 fun _ _ _ Y => (yy rfl rfl (Y 9 dc) (fun h => ?_) (fun h => fun d e _ => ⟨trivial, e.trans (if_neg h).symm⟩))
 have hl391 := tD h.1
 have hl392 := fD h.2
 have hi393 : ((((t.fields.getD fi.toNat default).moves).getD arg.toNat default).need).toNat < c.length := bo
 exact zq (k := 2) (i := (((t.fields.getD fi.toNat default).moves).getD arg.toNat default).need) qT mT (Eq.trans (Y 10 dc) (if_pos ⟨h.1, h.2⟩)) hc.sl (Eq.trans (Y 12 dc) (if_pos ⟨h.1, h.2⟩)) ⟨by omega, by omega⟩ (fun d e _ => ⟨rfl, e.trans (if_pos h).symm⟩)
 refine fun _ _ _ _ _ _ an => (yy rfl rfl (an 9 dc) (fun q => ?_) (fun q => fun d e _ => ⟨trivial, e.trans (if_neg q).symm⟩))
 have hl403 := tD q.1
 have hl404 := fD q.2
 exact yL (Eq.trans (an 13 dc) (if_pos ⟨q.1, q.2⟩)) (fun d e _ => ⟨rfl, e.trans (if_pos q).symm⟩)
 refine ob1 0 fun _ _ (bj : Sep _ _ _ _) ao => (yy rfl rfl (ao 9 dc) (fun s => ?_) (fun s => fun d e _ => ⟨trivial, e.trans (if_neg s).symm⟩))
 have hl415 := tD s.1
 have hl416 := fD s.2
 have ap : ((((t.fields.getD fi.toNat default).moves).getD arg.toNat default).need).toNat < c.length := bo
 obtain ⟨aR, ah, hoke417⟩ := hc.celD ap
 have hsm419 : ((c.getD (((((t.fields.getD fi.toNat default).moves).getD arg.toNat default).need).toNat) default).set).length * 8 ≤ 140737488355328 := ah.small
 have aT := bj.cells aR (hc.foot (ne_of_lt ap))
 exact lD (Iv ((c.getD (((((t.fields.getD fi.toNat default).moves).getD arg.toNat default).need).toNat) default).n)) lT (Eq.trans (ao 14 dc) (if_pos ⟨s.1, s.2⟩)) (aT.get (j := 0) rfl) (fun d e _ => ⟨rfl, e.trans (if_pos s).symm⟩)
 refine fun _ _ _ _ _ _ bk => (yy rfl rfl (bk 9 dc) (fun J => ?_) (fun J => fun d e _ => ⟨trivial, e.trans (if_neg J).symm⟩))
 have hl429 := tD J.1
 have hl430 := fD J.2
 exact WE rfl (fun d e _ => ⟨rfl, e.trans (if_pos J).symm⟩)
 refine ob1 0 fun _ _ (bl : Sep _ _ _ _) aq => (yy rfl rfl (aq 9 dc) (fun u => ?_) (fun u => fun d e _ => ⟨trivial, e.trans (if_neg u).symm⟩))
 have hl441 := tD u.1
 have hl442 := fD u.2
 exact lD (Iv ((((t.fields.getD fi.toNat default).moves).getD arg.toNat default).least)) lT (Eq.trans (aq 16 dc) (if_pos ⟨u.1, u.2⟩)) (zd (bl.b0) rfl) (fun d e _ => ⟨rfl, e.trans (if_pos u).symm⟩)
 refine ob1 0 fun _ _ _ Z => (yy rfl rfl (Z 9 dc) (fun m => ?_) (fun m => fun d e _ => ⟨trivial, e.trans (if_neg m).symm⟩))
 have hl454 := tD m.1
 have hl455 := fD m.2
 exact yV (k := .i64) (a := (c.getD (((((t.fields.getD fi.toNat default).moves).getD arg.toNat default).need).toNat) default).n) (b := (((t.fields.getD fi.toNat default).moves).getD arg.toNat default).least) (Eq.trans (Z 15 dc) (if_pos ⟨m.1, m.2⟩)) (Eq.trans (Z 17 dc) (if_pos ⟨m.1, m.2⟩)) (fun d e _ => ⟨rfl, e.trans (if_pos m).symm⟩)
 refine fun _ _ _ _ _ _ aa => (zC rfl rfl (aa 5 dc) (fun A => ?_) (fun A => fun d e _ => ⟨trivial, e.trans (if_neg A).symm⟩))
 have hl466 := tD A
 exact zx (b := decide (((((t.fields.getD fi.toNat default).moves).getD arg.toNat default).need) < 0)) (b' := decide (((((t.fields.getD fi.toNat default).moves).getD arg.toNat default).least) ≤ ((c.getD (((((t.fields.getD fi.toNat default).moves).getD arg.toNat default).need).toNat) default).n))) (Eq.trans (aa 9 dc) (if_pos A)) (fun hbp => (Eq.trans (aa 18 dc) (if_pos ⟨A, hbp⟩))) (fun d e _ => ⟨rfl, e.trans (if_pos A).symm⟩)
 exact fun _ _ _ _ _ _ ar => obl rfl (zo (b := decide (((c.getD fi.toNat default).n) = ((((t.fields.getD fi.toNat default).moves).getD arg.toNat default).frm))) (b' := (decide (((((t.fields.getD fi.toNat default).moves).getD arg.toNat default).need) < 0)) || (decide (((((t.fields.getD fi.toNat default).moves).getD arg.toNat default).least) ≤ ((c.getD (((((t.fields.getD fi.toNat default).moves).getD arg.toNat default).need).toNat) default).n)))) (ar 5 dc) (fun hbp => (Eq.trans (ar 19 dc) (if_pos hbp))) dR)
 intro vals w482 bm bn
 have au : Sep _ _ _ _ := bm
 have cf := bn 21 dc
 refine zZ (kv := [(0, .agg (t.cells dt0).toArray), (1, vc), (2, Iv fi), (3, Iv op), (4, Iv arg), (5, Ix b2 0), (10, Iv 0), (16, Ix b2 0), (17, dt0), (18, Iv fi), (19, Ix (sb dt0) (so dt0 + fi.toNat * 4)), (20, .agg ((t.fields.getD fi.toNat default).cells (zy W (sb dt0) (so dt0 + fi.toNat * 4 + 3))).toArray), (11, Ix af 0), (21, vc), (22, Iv fi), (23, Ix (sb vc) (so vc + fi.toNat * 2)), (24, .agg ((c.getD fi.toNat default).cells (zy W (sb vc) (so vc + fi.toNat * 2 + 1))).toArray), (12, Ix U 0), (13, .bool ((decide (((c.getD fi.toNat default).n) = ((((t.fields.getD fi.toNat default).moves).getD arg.toNat default).frm))) && ((decide (((((t.fields.getD fi.toNat default).moves).getD arg.toNat default).need) < 0)) || (decide (((((t.fields.getD fi.toNat default).moves).getD arg.toNat default).least) ≤ ((c.getD (((((t.fields.getD fi.toNat default).moves).getD arg.toNat default).need).toNat) default).n)))))), (25, Iv op), (27, .bool false), (26, .bool false), (68, .bool false), (67, .bool false), (80, .bool true), (79, .bool true), (81, Ix af 3), (82, (zy W (sb dt0) (so dt0 + fi.toNat * 4 + 3))), (83, Iv arg), (84, Ix (sb (zy W (sb dt0) (so dt0 + fi.toNat * 4 + 3))) (so (zy W (sb dt0) (so dt0 + fi.toNat * 4 + 3)) + arg.toNat * 4)), (85, .agg ((((t.fields.getD fi.toNat default).moves).getD arg.toNat default).cells).toArray), (15, Ix X 0)]) ⟨rfl, rfl, rfl, rfl, rfl, rfl, rfl, rfl, rfl, rfl, rfl, rfl, rfl, rfl, rfl, rfl, rfl, rfl, (by exact cf), rfl, rfl, rfl, rfl, rfl, rfl, rfl, rfl, rfl, rfl, rfl, rfl, rfl, trivial⟩ (fun ρw482 => ?_)
 refine zb (za (za (R0 fun _ => st (mV (.bool ((decide (((c.getD fi.toNat default).n) = ((((t.fields.getD fi.toNat default).moves).getD arg.toNat default).frm))) && ((decide (((((t.fields.getD fi.toNat default).moves).getD arg.toNat default).need) < 0)) || (decide (((((t.fields.getD fi.toNat default).moves).getD arg.toNat default).least) ≤ ((c.getD (((((t.fields.getD fi.toNat default).moves).getD arg.toNat default).need).toNat) default).n)))))) (zb ?_)))))
 cases L : (decide (((c.getD fi.toNat default).n) = ((((t.fields.getD fi.toNat default).moves).getD arg.toNat default).frm))) && ((decide (((((t.fields.getD fi.toNat default).moves).getD arg.toNat default).need) < 0)) || (decide (((((t.fields.getD fi.toNat default).moves).getD arg.toNat default).least) ≤ ((c.getD (((((t.fields.getD fi.toNat default).moves).getD arg.toNat default).need).toNat) default).n))))
 have R := L
 try simp only [zf] at L
 refine zi rfl (zk (za (R0 fun _ => st (aS (Iv 10) (zb (zm (zL lR (show _ = (Iv 10 : Value) from rfl) ?_)))))))
 refine ⟨?_, (au.s4_)⟩
 congr 1
 have o : yZ (yK t fi) c (yi c fi) op arg = false := by rw [y]; exact (KL).trans R
 unfold yY
 rw [o]; rfl
 have R := L
 try simp only [zf] at L
 refine zj rfl (za (R0 fun _ => st (aS (Iv 0) (zb (zm (zL lR (show _ = (Iv 0 : Value) from rfl) ?_))))))
 refine ⟨?_, (au.s4_)⟩
 congr 1
 have o : yZ (yK t fi) c (yi c fi) op arg = true := by rw [y]; exact (KL).trans R
 unfold yY
 rw [o]; rfl
 have C := tD C
 refine zj rfl (zw kr (st (yC rfl (st (lD ce qR rfl (zd (g.b0) rfl) (st (zA (n := ((c.getD fi.toNat default).set).length) vT rfl z.sl (st (zD (k := .i64) (a := ((((c.getD fi.toNat default).set).length : Nat) : Int)) (b := 64) rfl rfl (st (mV (.bool (decide (((((c.getD fi.toNat default).set).length : Nat) : Int) < 64))) (stc (V := Ix U 1) rfl rfl (fun bp => ?_) ?_))))))))))))
 have hl491 := fD bp
 exact yC rfl ⟨rfl, rfl⟩
 refine stc (V := ce) rfl rfl (fun av => ?_) ?_
 have hl493 := fD av
 exact lD ce qR (if_pos av) (zd (g.b0) rfl) ⟨rfl, rfl⟩
 refine stc (V := Iv arg) rfl rfl (fun bq => ?_) ?_
 have hl495 := fD bq
 exact mV (Iv arg) ⟨rfl, rfl⟩
 refine KG (V := .bool (decide (arg ∈ ((c.getD fi.toNat default).set)))) (fun _ wq => Sep G W ((Blk U ck.toArray 42) :: (Blk af cj.toArray 79) :: (Blk b2 (t.cells dt0).toArray 33) :: Rs) wq) g rfl rfl (fun ab => ?_) (fun w500 aw => ?_)
 have hl497 := fD ab
 refine (zV (f := 99) (vals := [ce, Iv arg]) (cap := []) rfl (yH ⟨(if_pos ab), (if_pos ab), trivial⟩) Tryd.call99 (Kn (l := (c.getD fi.toNat default).set) (vl := ce) (n := arg) z harg g) ?_)
 rintro _ w498 ⟨rfl, br⟩
 exact ⟨rfl, br⟩
 refine st (zx (b := decide (((((c.getD fi.toNat default).set).length : Nat) : Int) < 64)) (b' := decide (arg ∈ ((c.getD fi.toNat default).set))) rfl (fun hbp => (if_pos hbp)) (st (aS (.bool ((decide (((((c.getD fi.toNat default).set).length : Nat) : Int) < 64)) || (decide (arg ∈ ((c.getD fi.toNat default).set))))) (zb (za (za (R0 fun _ => st (mV (.bool ((decide (((((c.getD fi.toNat default).set).length : Nat) : Int) < 64)) || (decide (arg ∈ ((c.getD fi.toNat default).set))))) (zb ?_)))))))))
 cases M : (decide (((((c.getD fi.toNat default).set).length : Nat) : Int) < 64)) || (decide (arg ∈ ((c.getD fi.toNat default).set)))
 have S := M
 try simp only [zf] at M
 refine zi rfl (zk (za (R0 fun _ => st (aS (Iv 10) (zb (zm (zL lR (show _ = (Iv 10 : Value) from rfl) ?_)))))))
 refine ⟨?_, (aw.s3_)⟩
 congr 1
 have o : yZ (yK t fi) c (yi c fi) op arg = false := by rw [C]; exact (KP).trans S
 unfold yY
 rw [o]; rfl
 have S := M
 try simp only [zf] at M
 refine zj rfl (za (R0 fun _ => st (aS (Iv 0) (zb (zm (zL lR (show _ = (Iv 0 : Value) from rfl) ?_))))))
 refine ⟨?_, (aw.s3_)⟩
 congr 1
 have o : yZ (yK t fi) c (yi c fi) op arg = true := by rw [C]; exact (KP).trans S
 unfold yY
 rw [o]; rfl
 have B := tD B
 refine zj rfl (za (R0 fun _ => st (yL rfl (st (lD (Iv ((c.getD fi.toNat default).n)) lT rfl (zd (g.b0) rfl) (st (mV (Iv arg) (st (zH (r := IntKind.i64.wrap (((c.getD fi.toNat default).n) + arg)) (k := .i64) (a := (c.getD fi.toNat default).n) (b := arg) rfl rfl rfl (st (aS (Iv (IntKind.i64.wrap (((c.getD fi.toNat default).n) + arg))) (zb (zw kr (st (yL rfl (st (lD (Iv ((c.getD fi.toNat default).n)) lT rfl (zd (g.b0) rfl) (st (yV (k := .i64) (a := (c.getD fi.toNat default).n) (b := 0) rfl rfl (st (mV (.bool (decide (0 ≤ ((c.getD fi.toNat default).n)))) (stc (V := Iv arg) rfl rfl (fun bs => ?_) ?_))))))))))))))))))))))
 have hl506 := tD bs
 exact mV (Iv arg) ⟨rfl, rfl⟩
 refine stc (V := .bool (decide (0 ≤ arg))) rfl rfl (fun ax => ?_) ?_
 have hl508 := tD ax
 exact yV (k := .i64) (a := arg) (b := 0) (if_pos ax) rfl ⟨rfl, rfl⟩
 refine st (zo (b := decide (0 ≤ ((c.getD fi.toNat default).n))) (b' := decide (0 ≤ arg)) rfl (fun hbp => (if_pos hbp)) (st (mV (.bool ((decide (0 ≤ ((c.getD fi.toNat default).n))) && (decide (0 ≤ arg)))) (stc (V := Iv (IntKind.i64.wrap (((c.getD fi.toNat default).n) + arg))) rfl rfl (fun bt => ?_) ?_))))
 have bu := bt
 try simp only [zf] at bu
 exact mV (Iv (IntKind.i64.wrap (((c.getD fi.toNat default).n) + arg))) ⟨rfl, rfl⟩
 refine stc (V := .bool (decide ((IntKind.i64.wrap (((c.getD fi.toNat default).n) + arg)) < 0))) rfl rfl (fun ay => ?_) ?_
 have bv := ay
 try simp only [zf] at bv
 exact zD (k := .i64) (a := IntKind.i64.wrap (((c.getD fi.toNat default).n) + arg)) (b := 0) (if_pos ay) rfl ⟨rfl, rfl⟩
 refine st (zo (b := (decide (0 ≤ ((c.getD fi.toNat default).n))) && (decide (0 ≤ arg))) (b' := decide ((IntKind.i64.wrap (((c.getD fi.toNat default).n) + arg)) < 0)) rfl (fun hbp => (if_pos hbp)) (st (yc (a := ((decide (0 ≤ ((c.getD fi.toNat default).n))) && (decide (0 ≤ arg))) && (decide ((IntKind.i64.wrap (((c.getD fi.toNat default).n) + arg)) < 0))) rfl (st (mV (.bool (!(((decide (0 ≤ ((c.getD fi.toNat default).n))) && (decide (0 ≤ arg))) && (decide ((IntKind.i64.wrap (((c.getD fi.toNat default).n) + arg)) < 0))))) (stc (V := Ix U 0) rfl rfl (fun bw => ?_) ?_))))))
 have bx := bw
 try simp only [zf] at bx
 exact yL rfl ⟨rfl, rfl⟩
 refine stc (V := Iv ((c.getD fi.toNat default).n)) rfl rfl (fun az => ?_) ?_
 have bz := az
 try simp only [zf] at bz
 exact lD (Iv ((c.getD fi.toNat default).n)) lT (if_pos az) (zd (g.b0) rfl) ⟨rfl, rfl⟩
 refine stc (V := .bool (decide (((c.getD fi.toNat default).n) < 0))) rfl rfl (fun aA => ?_) ?_
 have bA := aA
 try simp only [zf] at bA
 exact zD (k := .i64) (a := (c.getD fi.toNat default).n) (b := 0) (if_pos aA) rfl ⟨rfl, rfl⟩
 refine stc (V := .bool (decide (((c.getD fi.toNat default).n) < 0))) rfl rfl (fun aB => ?_) ?_
 have bB := aB
 try simp only [zf] at bB
 exact zP (v := .bool (decide (((c.getD fi.toNat default).n) < 0))) (if_pos aB) ⟨rfl, rfl⟩
 refine yz (V := Iv arg) rfl rfl (fun aC => ?_) ?_
 have bC := aC.1
 try simp only [zf] at bC
 have hl523 := tD aC.2
 exact mV (Iv arg) ⟨rfl, rfl⟩
 refine yz (V := .bool (decide (arg < 0))) rfl rfl (fun N => ?_) ?_
 have bD := N.1
 try simp only [zf] at bD
 have hl526 := tD N.2
 exact zD (k := .i64) (a := arg) (b := 0) (if_pos ⟨N.1, N.2⟩) rfl ⟨rfl, rfl⟩
 refine stc (V := .bool ((decide (((c.getD fi.toNat default).n) < 0)) && (decide (arg < 0)))) rfl rfl (fun ac => ?_) ?_
 have bE := ac
 try simp only [zf] at bE
 exact zo (b := decide (((c.getD fi.toNat default).n) < 0)) (b' := decide (arg < 0)) (if_pos ac) (fun hbp => (if_pos ⟨ac, hbp⟩)) ⟨rfl, rfl⟩
 refine stc (V := .bool ((decide (((c.getD fi.toNat default).n) < 0)) && (decide (arg < 0)))) rfl rfl (fun aD => ?_) ?_
 have bF := aD
 try simp only [zf] at bF
 exact zP (v := .bool ((decide (((c.getD fi.toNat default).n) < 0)) && (decide (arg < 0)))) (if_pos aD) ⟨rfl, rfl⟩
 refine yz (V := Iv (IntKind.i64.wrap (((c.getD fi.toNat default).n) + arg))) rfl rfl (fun aE => ?_) ?_
 have bG := aE.1
 try simp only [zf] at bG
 have bH := aE.2
 try simp only [zf] at bH
 exact mV (Iv (IntKind.i64.wrap (((c.getD fi.toNat default).n) + arg))) ⟨rfl, rfl⟩
 refine yz (V := .bool (decide (0 ≤ (IntKind.i64.wrap (((c.getD fi.toNat default).n) + arg))))) rfl rfl (fun O => ?_) ?_
 have bI := O.1
 try simp only [zf] at bI
 have bJ := O.2
 try simp only [zf] at bJ
 exact yV (k := .i64) (a := IntKind.i64.wrap (((c.getD fi.toNat default).n) + arg)) (b := 0) (if_pos ⟨O.1, O.2⟩) rfl ⟨rfl, rfl⟩
 refine stc (V := .bool (((decide (((c.getD fi.toNat default).n) < 0)) && (decide (arg < 0))) && (decide (0 ≤ (IntKind.i64.wrap (((c.getD fi.toNat default).n) + arg)))))) rfl rfl (fun ad => ?_) ?_
 have bK := ad
 try simp only [zf] at bK
 exact zo (b := (decide (((c.getD fi.toNat default).n) < 0)) && (decide (arg < 0))) (b' := decide (0 ≤ (IntKind.i64.wrap (((c.getD fi.toNat default).n) + arg)))) (if_pos ad) (fun hbp => (if_pos ⟨ad, hbp⟩)) ⟨rfl, rfl⟩
 refine stc (V := .bool (!(((decide (((c.getD fi.toNat default).n) < 0)) && (decide (arg < 0))) && (decide (0 ≤ (IntKind.i64.wrap (((c.getD fi.toNat default).n) + arg))))))) rfl rfl (fun aF => ?_) ?_
 have bL := aF
 try simp only [zf] at bL
 exact yc (a := ((decide (((c.getD fi.toNat default).n) < 0)) && (decide (arg < 0))) && (decide (0 ≤ (IntKind.i64.wrap (((c.getD fi.toNat default).n) + arg))))) (if_pos aF) ⟨rfl, rfl⟩
 refine st (zo (b := !(((decide (0 ≤ ((c.getD fi.toNat default).n))) && (decide (0 ≤ arg))) && (decide ((IntKind.i64.wrap (((c.getD fi.toNat default).n) + arg)) < 0)))) (b' := !(((decide (((c.getD fi.toNat default).n) < 0)) && (decide (arg < 0))) && (decide (0 ≤ (IntKind.i64.wrap (((c.getD fi.toNat default).n) + arg)))))) rfl (fun hbp => (if_pos hbp)) (st (mV (.bool ((!(((decide (0 ≤ ((c.getD fi.toNat default).n))) && (decide (0 ≤ arg))) && (decide ((IntKind.i64.wrap (((c.getD fi.toNat default).n) + arg)) < 0)))) && (!(((decide (((c.getD fi.toNat default).n) < 0)) && (decide (arg < 0))) && (decide (0 ≤ (IntKind.i64.wrap (((c.getD fi.toNat default).n) + arg)))))))) (stc (V := Ix af 2) rfl rfl (fun bM => ?_) ?_))))
 have bN := bM
 try simp only [zf] at bN
 exact Xk rfl ⟨rfl, rfl⟩
 refine stc (V := .bool ((t.fields.getD fi.toNat default).floor)) rfl rfl (fun aG => ?_) ?_
 have bO := aG
 try simp only [zf] at bO
 exact lD (.bool ((t.fields.getD fi.toNat default).floor)) rR (if_pos aG) (zd (g.b1) rfl) ⟨rfl, rfl⟩
 refine stc (V := .bool ((t.fields.getD fi.toNat default).floor)) rfl rfl (fun aH => ?_) ?_
 have bP := aH
 try simp only [zf] at bP
 exact zP (v := .bool ((t.fields.getD fi.toNat default).floor)) (if_pos aH) ⟨rfl, rfl⟩
 refine yz (V := Iv (IntKind.i64.wrap (((c.getD fi.toNat default).n) + arg))) rfl rfl (fun aI => ?_) ?_
 have bQ := aI.1
 try simp only [zf] at bQ
 have hl549 := aI.2
 exact mV (Iv (IntKind.i64.wrap (((c.getD fi.toNat default).n) + arg))) ⟨rfl, rfl⟩
 refine yz (V := .bool (decide ((IntKind.i64.wrap (((c.getD fi.toNat default).n) + arg)) < 0))) rfl rfl (fun P => ?_) ?_
 have bR := P.1
 try simp only [zf] at bR
 have hl552 := P.2
 exact zD (k := .i64) (a := IntKind.i64.wrap (((c.getD fi.toNat default).n) + arg)) (b := 0) (if_pos ⟨P.1, P.2⟩) rfl ⟨rfl, rfl⟩
 refine stc (V := .bool (((t.fields.getD fi.toNat default).floor) && (decide ((IntKind.i64.wrap (((c.getD fi.toNat default).n) + arg)) < 0)))) rfl rfl (fun ae => ?_) ?_
 have bS := ae
 try simp only [zf] at bS
 exact zo (b := (t.fields.getD fi.toNat default).floor) (b' := decide ((IntKind.i64.wrap (((c.getD fi.toNat default).n) + arg)) < 0)) (if_pos ae) (fun hbp => (if_pos ⟨ae, hbp⟩)) ⟨rfl, rfl⟩
 refine stc (V := .bool (!(((t.fields.getD fi.toNat default).floor) && (decide ((IntKind.i64.wrap (((c.getD fi.toNat default).n) + arg)) < 0))))) rfl rfl (fun aJ => ?_) ?_
 have bT := aJ
 try simp only [zf] at bT
 exact yc (a := ((t.fields.getD fi.toNat default).floor) && (decide ((IntKind.i64.wrap (((c.getD fi.toNat default).n) + arg)) < 0))) (if_pos aJ) ⟨rfl, rfl⟩
 refine st (zo (b := (!(((decide (0 ≤ ((c.getD fi.toNat default).n))) && (decide (0 ≤ arg))) && (decide ((IntKind.i64.wrap (((c.getD fi.toNat default).n) + arg)) < 0)))) && (!(((decide (((c.getD fi.toNat default).n) < 0)) && (decide (arg < 0))) && (decide (0 ≤ (IntKind.i64.wrap (((c.getD fi.toNat default).n) + arg))))))) (b' := !(((t.fields.getD fi.toNat default).floor) && (decide ((IntKind.i64.wrap (((c.getD fi.toNat default).n) + arg)) < 0)))) rfl (fun hbp => (if_pos hbp)) (st (aS (.bool (((!(((decide (0 ≤ ((c.getD fi.toNat default).n))) && (decide (0 ≤ arg))) && (decide ((IntKind.i64.wrap (((c.getD fi.toNat default).n) + arg)) < 0)))) && (!(((decide (((c.getD fi.toNat default).n) < 0)) && (decide (arg < 0))) && (decide (0 ≤ (IntKind.i64.wrap (((c.getD fi.toNat default).n) + arg))))))) && (!(((t.fields.getD fi.toNat default).floor) && (decide ((IntKind.i64.wrap (((c.getD fi.toNat default).n) + arg)) < 0)))))) (zb (za (za (R0 fun _ => ?_)))))))
 refine st (mV (.bool (((!(((decide (0 ≤ ((c.getD fi.toNat default).n))) && (decide (0 ≤ arg))) && (decide ((IntKind.i64.wrap (((c.getD fi.toNat default).n) + arg)) < 0)))) && (!(((decide (((c.getD fi.toNat default).n) < 0)) && (decide (arg < 0))) && (decide (0 ≤ (IntKind.i64.wrap (((c.getD fi.toNat default).n) + arg))))))) && (!(((t.fields.getD fi.toNat default).floor) && (decide ((IntKind.i64.wrap (((c.getD fi.toNat default).n) + arg)) < 0)))))) (zb ?_))
 cases Q : ((!(((decide (0 ≤ ((c.getD fi.toNat default).n))) && (decide (0 ≤ arg))) && (decide ((IntKind.i64.wrap (((c.getD fi.toNat default).n) + arg)) < 0)))) && (!(((decide (((c.getD fi.toNat default).n) < 0)) && (decide (arg < 0))) && (decide (0 ≤ (IntKind.i64.wrap (((c.getD fi.toNat default).n) + arg))))))) && (!(((t.fields.getD fi.toNat default).floor) && (decide ((IntKind.i64.wrap (((c.getD fi.toNat default).n) + arg)) < 0))))
 have T := Q
 try simp only [zf] at Q
 refine zi rfl (zk (za (R0 fun _ => st (aS (Iv 10) (zb (zm (zL lR (show _ = (Iv 10 : Value) from rfl) ?_)))))))
 refine ⟨?_, (g.s3_)⟩
 congr 1
 have o : yZ (yK t fi) c (yi c fi) op arg = false := by rw [B]; exact (KR (ag).n harg).trans T
 unfold yY
 rw [o]; rfl
 have T := Q
 try simp only [zf] at Q
 refine zj rfl (za (R0 fun _ => st (aS (Iv 0) (zb (zm (zL lR (show _ = (Iv 0 : Value) from rfl) ?_))))))
 refine ⟨?_, (g.s3_)⟩
 congr 1
 have o : yZ (yK t fi) c (yi c fi) op arg = true := by rw [B]; exact (KR (ag).n harg).trans T
 unfold yY
 rw [o]; rfl

theorem Yt {t : Typ} {c : List Cel} {fi op arg a : Int} {S : List Int} (h : (⟨a, S⟩ : Cel) = yF (yK t fi) (yi c fi) op arg) : c.set fi.toNat (⟨a, S⟩ : Cel) = doL t c fi op arg := by unfold doL; rw [h]
theorem dc_1 {fl : Fld} {c : Cel} {arg : Int} : yF fl c 1 arg = ⟨IntKind.i64.wrap (c.n + arg), c.set⟩ := rfl
theorem dc_2 {fl : Fld} {c : Cel} {arg : Int} : yF fl c 2 arg = ⟨arg, c.set⟩ := rfl
theorem dc_3 {fl : Fld} {c : Cel} {arg : Int} : yF fl c 3 arg = ⟨c.n, Zh c.set arg⟩ := rfl
theorem dc_4 {fl : Fld} {c : Cel} {arg : Int} : yF fl c 4 arg = ⟨c.n, xN c.set arg⟩ := rfl
theorem dc_5 {fl : Fld} {c : Cel} {arg : Int} : yF fl c 5 arg = ⟨(Zj fl arg).to, c.set⟩ := rfl
theorem dc_o {fl : Fld} {c : Cel} {op arg : Int} (h1 : ¬ op = 1) (h2 : ¬ op = 2) (h3 : ¬ op = 3) (h4 : ¬ op = 4) (h5 : ¬ op = 5) : yF fl c op arg = c := by unfold yF; rw [if_neg h1, if_neg h2, if_neg h3, if_neg h4, if_neg h5]
theorem Qu {G : Nat → Prop} {W w : World} {Rs : List HP} {t : Typ} {dt0 : Value} (hdt0 : RdS W G dt0 t.fields) (ot : t.Ok) {vc : Value} {c : List Cel} (hc : RdS W G vc c) {fi : Int} (hfi : InR fi) {op : Int} (hop : InR op) {arg : Int} (harg : InR arg) (hS0 : Sep G W Rs w) (hask : YD t c fi op arg) (hfew : (c.getD fi.toNat default).set.length ≤ 1000) : Ret Tryd.prog 50 [.agg (t.cells dt0).toArray, vc, .int .i64 (fi), .int .i64 (op), .int .i64 (arg)] w (fun r w' => ∃ (v : Value), r = (v : Value) ∧ Sep G W ((RowE (α := Cel) own 42 v (doL t c fi op arg)) :: Rs) w') := by
 let bj := doL t c fi op arg
 let bi := c.getD fi.toNat default
 let bh := ((t.fields.getD fi.toNat default).moves).getD arg.toNat default
 have hdt0s : _ * 48 ≤ _ := hdt0.small
 have hcs : _ * 32 ≤ _ := hc.small
 have ha0 := hask.1
 have ha1 := hask.2.1
 have ha2 := hask.2.2.1
 refine zl (args := [.agg (t.cells dt0).toArray, vc, Iv fi, Iv op, Iv arg]) Tryd.func50 rfl rfl ?_
 refine za (R0 fun _ => st (zR (v := .agg (t.cells dt0).toArray) rfl ?_))
 intro w3 b2 bd
 refine st (aS (Iz) (zb (za (R0 fun _ => st (mV vc (st (cL Tryd.call74 (KT (c := c) (vc := vc) hc (hS0.new bd)) ?_)))))))
 rintro e w6 ⟨_, rfl, bf⟩
 refine st (aS e (zb (za (R0 fun _ => ?_))))
 obtain ⟨d, g, aH⟩ := CelW.open bf
 let be := d.getD fi.toNat default
 have hsh9l := g.1
 have J : Sep G W ((RowE (α := CelS) own 42 e d) :: (Star (SetRows 3 d c)) :: (Blk b2 (t.cells dt0).toArray 33) :: Rs) w6 := aH
 have p := J.r0
 have hr11s : _ * 32 ≤ _ := p.2
 have K := g.2 fi.toNat om
 have I : Sep G W ((RowE (α := Int) own 3 ((d.getD fi.toNat default).v) ((c.getD fi.toNat default).set)) :: (Star ((SetRows 3 d c).set fi.toNat Emp)) :: (RowE (α := CelS) own 42 e d) :: (Blk b2 (t.cells dt0).toArray 33) :: Rs) w6 := Sep.takeStar (J.mv1) (SetRows.get (i := fi.toNat) om om)
 have m := I.r0
 have hr14s : _ * 8 ≤ _ := m.2
 refine st (mV e (st (mV (Iv fi) ?_)))
 have hi15 : fi.toNat < d.length := bo
 refine st (zq (k := 2) (i := fi) qT mT rfl p.1 rfl ⟨by omega, by omega⟩ ?_)
 have aI : fi.toNat < d.length := bo
 obtain ⟨_, _, an, rfl, y⟩ := I.rowAtD (i := 2) (j := fi.toNat) rfl aI
 refine st (zg (k := 2) sT mT rfl rfl an (st (zr uY ?_)))
 intro w20 b19 aJ
 have Y := I.new aJ
 refine stn (zp (v := .agg (be.cells).toArray) (c' := (be.cells).toArray) mT rfl rfl (Y.b0) (zW ⟨rfl, m.1.one, trivial⟩) yqc rfl ?_)
 intro w22 aK
 have f := Y.pt0 aK
 refine zb (za (za (R0 fun _ => st (mV (Iv op) (zb (zn (za (R0 fun _ => st (zF (k := .i64) (a := op) (b := 1) rfl rfl (st (aS (.bool (decide (op = 1))) (zb ?_))))))))))))
 cases z : decide (op = 1)
 have z := fD z
 refine zi rfl (za (R0 fun _ => st (zF (k := .i64) (a := op) (b := 2) rfl rfl (st (aS (.bool (decide (op = 2))) (zb ?_))))))
 cases A : decide (op = 2)
 have A := fD A
 refine zi rfl (za (R0 fun _ => st (zF (k := .i64) (a := op) (b := 3) rfl rfl (st (aS (.bool (decide (op = 3))) (zb ?_))))))
 cases B : decide (op = 3)
 have B := fD B
 refine zi rfl (za (R0 fun _ => st (zF (k := .i64) (a := op) (b := 4) rfl rfl (st (aS (.bool (decide (op = 4))) (zb ?_))))))
 cases C : decide (op = 4)
 have C := fD C
 refine zi rfl (za (R0 fun _ => st (zF (k := .i64) (a := op) (b := 5) rfl rfl (st (aS (.bool (decide (op = 5))) (zb ?_))))))
 cases x : decide (op = 5)
 have x := fD x
 refine zi rfl (zk (za (R0 fun _ => st (mV e (st (mV (Iv fi) (st (zg (k := 2) sT mT rfl rfl (CellsAt.all (f.b0)) ?_))))))))
 have hi30 : fi.toNat < d.length := bo
 refine st (zq (k := 2) (i := fi) qT mT rfl p.1 rfl ⟨by omega, by omega⟩ ?_)
 have aL := (f.mv3).emp1
 refine stn (yJ (α := CelS) (j := fi.toNat) (o := 0) (u := .agg ((d.getD fi.toNat default).cells).toArray) (us := (d.getD fi.toNat default).cells) (x1 := (⟨(d.getD fi.toNat default).n, (d.getD fi.toNat default).v⟩ : CelS)) aL mT bo rfl rfl rfl (Nat.le_of_ble_eq_true rfl) (zW ⟨rfl, m.1.one, trivial⟩) (fun _ _ _ hel _ => (by rw [← zG default (by omega)] at hel; obtain ⟨rfl, hok⟩ := hel; exact ⟨rfl, ⟨y.n, m.1.one⟩⟩)) ?_)
 intro w31 Z
 have aM := Z.r0
 have hr35s : _ * 32 ≤ _ := aM.2
 refine zb (za ?_)
 have aa : Sep _ _ ((CelW e 42 3 (c.set fi.toNat (⟨(d.getD fi.toNat default).n, (c.getD fi.toNat default).set⟩ : Cel))) :: _) _ := CelW.close (i := fi.toNat) (s := (⟨(d.getD fi.toNat default).n, (d.getD fi.toNat default).v⟩ : CelS)) (c := (⟨(d.getD fi.toNat default).n, (c.getD fi.toNat default).set⟩ : Cel)) g.1 g.2 om rfl (Z.s5_cdabe)
 have h : c.set fi.toNat (⟨(d.getD fi.toNat default).n, (c.getD fi.toNat default).set⟩ : Cel) = doL t c fi op arg := Yt (by rw [K, dc_o (by omega) (by omega) (by omega) (by omega) (by omega)]; rfl)
 rw [h] at aa
 have aN : Sep _ _ ((RowE (α := Cel) own 42 e bj) :: _) _ := CelW.row aa
 refine R0 fun _ => st (mV e (st (aS e (zb (zm (zL oR (show _ = (e : Value) from rfl) ?_))))))
 refine ⟨e, rfl, (aN.s3_a)⟩
 have x := tD x
 have bg := hask.2.2.2.2 x
 have ha51 : arg < (t.fields.getD fi.toNat default).moves.length := bg.2.1
 refine zj rfl (R0 fun _ => st (yv rfl (st (lD dt0 lY rfl (zd (f.b4) rfl) (st (mV (Iv fi) ?_))))))
 have hi40 : fi.toNat < t.fields.length := bo
 refine st (zq (k := 4) (i := fi) mY nR rfl hdt0.sl rfl ⟨by omega, by omega⟩ (st (yu rfl ?_)))
 have ab : fi.toNat < t.fields.length := bo
 obtain ⟨ao, q, hoke41⟩ := hdt0.fldD ab
 have hsm43 : ((t.fields.getD fi.toNat default).moves).length * 32 ≤ 140737488355328 := q.small
 have ap := f.cells ao (hdt0.foot (ne_of_lt ab))
 refine st (lD (zy W (sb dt0) (so dt0 + fi.toNat * 4 + 3)) vY rfl (ap.get (j := 3) rfl) (st (mV (Iv arg) ?_)))
 have hi45 : arg.toNat < ((t.fields.getD fi.toNat default).moves).length := bo
 refine st (zq (k := 4) (i := arg) wY pR rfl q.sl rfl ⟨by omega, by omega⟩ (st (Xb rfl ?_)))
 have ac : arg.toNat < ((t.fields.getD fi.toNat default).moves).length := bo
 obtain ⟨aq, ad⟩ := q.mvD ac
 have ar := f.cells aq (q.foot (ne_of_lt ac))
 refine st (lD (Iv (bh.to)) lT rfl (ar.get (j := 1) rfl) (st (yL rfl (stn (yp (v := Iv (bh.to)) (c := [Iv (be.n), be.v]) (c' := [Iv (bh.to), be.v]) wT rfl rfl (f.b0) rfl rfl rfl ?_)))))
 intro w49 aO
 have ae := f.pt0 aO
 refine zb (za (R0 fun _ => st (mV e (st (mV (Iv fi) (st (zg (k := 2) sT mT rfl rfl (CellsAt.all (ae.b0)) ?_)))))))
 have hi52 : fi.toNat < d.length := bo
 refine st (zq (k := 2) (i := fi) qT mT rfl p.1 rfl ⟨by omega, by omega⟩ ?_)
 have aP := (ae.mv3).emp1
 refine stn (yJ (α := CelS) (j := fi.toNat) (o := 0) (u := .agg #[Iv ((((t.fields.getD fi.toNat default).moves).getD arg.toNat default).to), (d.getD fi.toNat default).v]) (us := [Iv ((((t.fields.getD fi.toNat default).moves).getD arg.toNat default).to), (d.getD fi.toNat default).v]) (x1 := (⟨(((t.fields.getD fi.toNat default).moves).getD arg.toNat default).to, (d.getD fi.toNat default).v⟩ : CelS)) aP mT bo rfl rfl rfl (Nat.le_of_ble_eq_true rfl) (zW ⟨rfl, m.1.one, trivial⟩) (fun _ _ _ hel _ => (by rw [← zG default (by omega)] at hel; obtain ⟨rfl, hok⟩ := hel; exact ⟨rfl, ⟨ad.to, m.1.one⟩⟩)) ?_)
 intro w53 af
 have aQ := af.r0
 have hr57s : _ * 32 ≤ _ := aQ.2
 refine zb (za ?_)
 have ag : Sep _ _ ((CelW e 42 3 (c.set fi.toNat (⟨(((t.fields.getD fi.toNat default).moves).getD arg.toNat default).to, (c.getD fi.toNat default).set⟩ : Cel))) :: _) _ := CelW.close (i := fi.toNat) (s := (⟨(((t.fields.getD fi.toNat default).moves).getD arg.toNat default).to, (d.getD fi.toNat default).v⟩ : CelS)) (c := (⟨(((t.fields.getD fi.toNat default).moves).getD arg.toNat default).to, (c.getD fi.toNat default).set⟩ : Cel)) g.1 g.2 om rfl (af.s5_cdabe)
 have h : c.set fi.toNat (⟨bh.to, bi.set⟩ : Cel) = doL t c fi op arg := Yt (by rw [x, dc_5]; rfl)
 rw [h] at ag
 have aR : Sep _ _ ((RowE (α := Cel) own 42 e bj) :: _) _ := CelW.row ag
 refine R0 fun _ => st (mV e (st (aS e (zb (zm (zL oR (show _ = (e : Value) from rfl) ?_))))))
 refine ⟨e, rfl, (aR.s3_a)⟩
 have C := tD C
 have aG : Asc (c.getD fi.toNat default).set := hask.2.2.2.1 om
 refine zj rfl (R0 fun _ => st (yC rfl (st (lD (be.v) qR rfl (zd (f.b0) rfl) (st (mV (Iv arg) ?_))))))
 obtain ⟨G63, aT, hB66, aU, aV⟩ := (f.mv1).lend
 have L := RowE.rd aT
 have hrd69s : _ * 8 ≤ _ := L.small
 refine st (cL Tryd.call76 (UE (l := bi.set) (vl := be.v) (n := arg) L harg aU (hfew)) ?_)
 rintro D w71 ⟨_, rfl, ah⟩
 have F := ah.r0
 have hr73s : _ * 8 ≤ _ := F.2
 have ai := aV _ _ ah
 refine st (yC rfl (stn (yp (v := D) (c := [Iv (be.n), be.v]) (c' := [Iv (be.n), D]) lA rfl rfl (ai.b2) F.1.one rfl rfl ?_)))
 intro w75 aW
 have aj := ai.pt2 aW
 refine zb (za (R0 fun _ => st (mV e (st (mV (Iv fi) (st (zg (k := 2) sT mT rfl rfl (CellsAt.all (aj.b2)) ?_)))))))
 have hi78 : fi.toNat < d.length := bo
 refine st (zq (k := 2) (i := fi) qT mT rfl p.1 rfl ⟨by omega, by omega⟩ ?_)
 have aX := (aj.mv4).emp1
 refine stn (yJ (α := CelS) (j := fi.toNat) (o := 0) (u := .agg #[Iv ((d.getD fi.toNat default).n), D]) (us := [Iv ((d.getD fi.toNat default).n), D]) (x1 := (⟨(d.getD fi.toNat default).n, D⟩ : CelS)) aX mT bo rfl rfl rfl (Nat.le_of_ble_eq_true rfl) (zW ⟨rfl, F.1.one, trivial⟩) (fun _ _ _ hel _ => (by rw [← zG default (by omega)] at hel; obtain ⟨rfl, hok⟩ := hel; exact ⟨rfl, ⟨y.n, F.1.one⟩⟩)) ?_)
 intro w79 ak
 have aY := ak.r0
 have hr83s : _ * 32 ≤ _ := aY.2
 refine zb (za ?_)
 have al : Sep _ _ ((CelW e 42 3 (c.set fi.toNat (⟨(d.getD fi.toNat default).n, (xN ((c.getD fi.toNat default).set) arg)⟩ : Cel))) :: _) _ := CelW.close (i := fi.toNat) (s := (⟨(d.getD fi.toNat default).n, D⟩ : CelS)) (c := (⟨(d.getD fi.toNat default).n, (xN ((c.getD fi.toNat default).set) arg)⟩ : Cel)) g.1 g.2 om rfl (ak.s6_ceabdf)
 have h : c.set fi.toNat (⟨be.n, (xN (bi.set) arg)⟩ : Cel) = doL t c fi op arg := Yt (by rw [K, C, dc_4]; rfl)
 rw [h] at al
 have aZ : Sep _ _ ((RowE (α := Cel) own 42 e bj) :: _) _ := CelW.row al
 refine R0 fun _ => st (mV e (st (aS e (zb (zm (zL oR (show _ = (e : Value) from rfl) ?_))))))
 refine ⟨e, rfl, (aZ.s4_a)⟩
 have B := tD B
 have aG : Asc (c.getD fi.toNat default).set := hask.2.2.2.1 om
 refine zj rfl (R0 fun _ => st (yC rfl (st (lD (be.v) qR rfl (zd (f.b0) rfl) (st (mV (Iv arg) ?_))))))
 obtain ⟨G89, ba, hB92, bb, bc⟩ := (f.mv1).lend
 have M := RowE.rd ba
 have hrd95s : _ * 8 ≤ _ := M.small
 refine st (cL Tryd.call75 (Jd (l := bi.set) (vl := be.v) (n := arg) M harg bb (aG) (hfew)) ?_)
 rintro E w97 ⟨_, rfl, am⟩
 have H := am.r0
 have hr99s : _ * 8 ≤ _ := H.2
 have N := bc _ _ am
 refine st (yC rfl (stn (yp (v := E) (c := [Iv (be.n), be.v]) (c' := [Iv (be.n), E]) lA rfl rfl (N.b2) H.1.one rfl rfl ?_)))
 intro w101 au
 have O := N.pt2 au
 refine zb (za (R0 fun _ => st (mV e (st (mV (Iv fi) (st (zg (k := 2) sT mT rfl rfl (CellsAt.all (O.b2)) ?_)))))))
 have hi104 : fi.toNat < d.length := bo
 refine st (zq (k := 2) (i := fi) qT mT rfl p.1 rfl ⟨by omega, by omega⟩ ?_)
 have av := (O.mv4).emp1
 refine stn (yJ (α := CelS) (j := fi.toNat) (o := 0) (u := .agg #[Iv ((d.getD fi.toNat default).n), E]) (us := [Iv ((d.getD fi.toNat default).n), E]) (x1 := (⟨(d.getD fi.toNat default).n, E⟩ : CelS)) av mT bo rfl rfl rfl (Nat.le_of_ble_eq_true rfl) (zW ⟨rfl, H.1.one, trivial⟩) (fun _ _ _ hel _ => (by rw [← zG default (by omega)] at hel; obtain ⟨rfl, hok⟩ := hel; exact ⟨rfl, ⟨y.n, H.1.one⟩⟩)) ?_)
 intro w105 P
 have aw := P.r0
 have hr109s : _ * 32 ≤ _ := aw.2
 refine zb (za ?_)
 have Q : Sep _ _ ((CelW e 42 3 (c.set fi.toNat (⟨(d.getD fi.toNat default).n, (Zh ((c.getD fi.toNat default).set) arg)⟩ : Cel))) :: _) _ := CelW.close (i := fi.toNat) (s := (⟨(d.getD fi.toNat default).n, E⟩ : CelS)) (c := (⟨(d.getD fi.toNat default).n, (Zh ((c.getD fi.toNat default).set) arg)⟩ : Cel)) g.1 g.2 om rfl (P.s6_ceabdf)
 have h : c.set fi.toNat (⟨be.n, (Zh (bi.set) arg)⟩ : Cel) = doL t c fi op arg := Yt (by rw [K, B, dc_3]; rfl)
 rw [h] at Q
 have ax : Sep _ _ ((RowE (α := Cel) own 42 e bj) :: _) _ := CelW.row Q
 refine R0 fun _ => st (mV e (st (aS e (zb (zm (zL oR (show _ = (e : Value) from rfl) ?_))))))
 refine ⟨e, rfl, (ax.s4_a)⟩
 have A := tD A
 refine zj rfl (R0 fun _ => st (mV (Iv arg) (st (yL rfl (stn (yp (v := Iv arg) (c := [Iv (be.n), be.v]) (c' := [Iv arg, be.v]) wT rfl rfl (f.b0) rfl rfl rfl ?_))))))
 intro w114 ay
 have R := f.pt0 ay
 refine zb (za (R0 fun _ => st (mV e (st (mV (Iv fi) (st (zg (k := 2) sT mT rfl rfl (CellsAt.all (R.b0)) ?_)))))))
 have hi117 : fi.toNat < d.length := bo
 refine st (zq (k := 2) (i := fi) qT mT rfl p.1 rfl ⟨by omega, by omega⟩ ?_)
 have az := (R.mv3).emp1
 refine stn (yJ (α := CelS) (j := fi.toNat) (o := 0) (u := .agg #[Iv arg, (d.getD fi.toNat default).v]) (us := [Iv arg, (d.getD fi.toNat default).v]) (x1 := (⟨arg, (d.getD fi.toNat default).v⟩ : CelS)) az mT bo rfl rfl rfl (Nat.le_of_ble_eq_true rfl) (zW ⟨rfl, m.1.one, trivial⟩) (fun _ _ _ hel _ => (by rw [← zG default (by omega)] at hel; obtain ⟨rfl, hok⟩ := hel; exact ⟨rfl, ⟨harg, m.1.one⟩⟩)) ?_)
 intro w118 S
 have aA := S.r0
 have hr122s : _ * 32 ≤ _ := aA.2
 refine zb (za ?_)
 have T : Sep _ _ ((CelW e 42 3 (c.set fi.toNat (⟨arg, (c.getD fi.toNat default).set⟩ : Cel))) :: _) _ := CelW.close (i := fi.toNat) (s := (⟨arg, (d.getD fi.toNat default).v⟩ : CelS)) (c := (⟨arg, (c.getD fi.toNat default).set⟩ : Cel)) g.1 g.2 om rfl (S.s5_cdabe)
 have h : c.set fi.toNat (⟨arg, bi.set⟩ : Cel) = doL t c fi op arg := Yt (by rw [A, dc_2]; rfl)
 rw [h] at T
 have aB : Sep _ _ ((RowE (α := Cel) own 42 e bj) :: _) _ := CelW.row T
 refine R0 fun _ => st (mV e (st (aS e (zb (zm (zL oR (show _ = (e : Value) from rfl) ?_))))))
 refine ⟨e, rfl, (aB.s3_a)⟩
 have z := tD z
 refine zj rfl (R0 fun _ => st (yL rfl (st (lD (Iv (be.n)) lT rfl (zd (f.b0) rfl) (st (mV (Iv arg) (st (zH (r := IntKind.i64.wrap ((be.n) + arg)) (k := .i64) (a := be.n) (b := arg) rfl rfl rfl (st (yL rfl (stn (yp (v := Iv (IntKind.i64.wrap ((be.n) + arg))) (c := [Iv (be.n), be.v]) (c' := [Iv (IntKind.i64.wrap ((be.n) + arg)), be.v]) wT rfl rfl (f.b0) rfl rfl rfl ?_))))))))))))
 intro w127 aC
 have U := f.pt0 aC
 refine zb (za (R0 fun _ => st (mV e (st (mV (Iv fi) (st (zg (k := 2) sT mT rfl rfl (CellsAt.all (U.b0)) ?_)))))))
 have hi130 : fi.toNat < d.length := bo
 refine st (zq (k := 2) (i := fi) qT mT rfl p.1 rfl ⟨by omega, by omega⟩ ?_)
 have aD := (U.mv3).emp1
 refine stn (yJ (α := CelS) (j := fi.toNat) (o := 0) (u := .agg #[Iv (IntKind.i64.wrap (((d.getD fi.toNat default).n) + arg)), (d.getD fi.toNat default).v]) (us := [Iv (IntKind.i64.wrap (((d.getD fi.toNat default).n) + arg)), (d.getD fi.toNat default).v]) (x1 := (⟨IntKind.i64.wrap (((d.getD fi.toNat default).n) + arg), (d.getD fi.toNat default).v⟩ : CelS)) aD mT bo rfl rfl rfl (Nat.le_of_ble_eq_true rfl) (zW ⟨rfl, m.1.one, trivial⟩) (fun _ _ _ hel _ => (by rw [← zG default (by omega)] at hel; obtain ⟨rfl, hok⟩ := hel; exact ⟨rfl, ⟨(XE _), m.1.one⟩⟩)) ?_)
 intro w131 V
 have aE := V.r0
 have hr135s : _ * 32 ≤ _ := aE.2
 refine zb (za ?_)
 have X : Sep _ _ ((CelW e 42 3 (c.set fi.toNat (⟨IntKind.i64.wrap (((d.getD fi.toNat default).n) + arg), (c.getD fi.toNat default).set⟩ : Cel))) :: _) _ := CelW.close (i := fi.toNat) (s := (⟨IntKind.i64.wrap (((d.getD fi.toNat default).n) + arg), (d.getD fi.toNat default).v⟩ : CelS)) (c := (⟨IntKind.i64.wrap (((d.getD fi.toNat default).n) + arg), (c.getD fi.toNat default).set⟩ : Cel)) g.1 g.2 om rfl (V.s5_cdabe)
 have h : c.set fi.toNat (⟨IntKind.i64.wrap ((be.n) + arg), bi.set⟩ : Cel) = doL t c fi op arg := Yt (by rw [K, z, dc_1]; rfl)
 rw [h] at X
 have aF : Sep _ _ ((RowE (α := Cel) own 42 e bj) :: _) _ := CelW.row X
 refine R0 fun _ => st (mV e (st (aS e (zb (zm (zL oR (show _ = (e : Value) from rfl) ?_))))))
 refine ⟨e, rfl, (aF.s3_a)⟩

def rJ (d : Dcl) (e : Ev) (x : Ent) : Bool := on3 (e.typ, e.agg, e.field) x && yA ((xB d e.typ).fields.getD e.field.toNat default) x.ev e
def JB (d : Dcl) (X : List Ent) (i q : Nat) (b : Int) : Prop := (b = -1 ∧ ∀ j, q ≤ j → j < i → rJ d (X.getD i default).ev (X.getD j default) = false) ∨ ∃ j : Nat, b = (j : Int) ∧ q ≤ j ∧ j < i ∧ rJ d (X.getD i default).ev (X.getD j default) = true ∧ ∀ j', q ≤ j' → j' < j → rJ d (X.getD i default).ev (X.getD j' default) = false
theorem JB.start {d : Dcl} {X : List Ent} {i : Nat} : JB d X i i (-1) := .inl ⟨rfl, fun j h1 h2 => absurd h2 (Nat.not_lt.2 h1)⟩
theorem JB.hit {d : Dcl} {X : List Ent} {i q : Nat} {c : Int} (h0 : 1 ≤ q) (hq : q ≤ i) (h : rJ d (X.getD i default).ev (X.getD (((q : Nat) : Int) - 1).toNat default) = true) (hc : c = ((q : Nat) : Int) - 1) : JB d X i (q - 1) c := by
  have e : (((q : Nat) : Int) - 1).toNat = q - 1 := by omega
  rw [e] at h
  exact .inr ⟨q - 1, by omega, Nat.le_refl _, by omega, h, fun j' h1 h2 => absurd h2 (Nat.not_lt.2 h1)⟩
theorem JB.miss {d : Dcl} {X : List Ent} {i q : Nat} {b : Int} (h0 : 1 ≤ q) (hq : q ≤ i) (hb : JB d X i q b) (h : rJ d (X.getD i default).ev (X.getD (((q : Nat) : Int) - 1).toNat default) = false) : JB d X i (q - 1) b := by
  have e : (((q : Nat) : Int) - 1).toNat = q - 1 := by omega
  rw [e] at h
  have key : ∀ j, q - 1 ≤ j → (q ≤ j ∨ j = q - 1) := fun j hj => by omega
  rcases hb with ⟨rfl, h1⟩ | ⟨j, rfl, h1, h2, h3, h4⟩
  · exact .inl ⟨rfl, fun j hj hji => by
      rcases key j hj with h5 | rfl
      · exact h1 j h5 hji
      · exact h⟩
  · exact .inr ⟨j, rfl, by omega, h2, h3, fun j' hj hji => by
      rcases key j' hj with h5 | rfl
      · exact h4 j' h5 hji
      · exact h⟩
theorem xM {p : Ent → Bool} {q : Ev → Bool} : ∀ (T : List Ent), ((T.filter p).map (·.ev)).find? q = (T.find? (fun x => p x && q x.ev)).map (·.ev)
  | [] => rfl
  | x :: T => by
    have ih := xM (p := p) (q := q) T
    rw [List.filter_cons, List.find?_cons]
    cases hp : p x with
    | false => simp [ih]
    | true =>
      simp only [if_true, List.map_cons, List.find?_cons, Bool.true_and]
      cases hq : q x.ev with
      | true => rfl
      | false => exact ih
theorem Xl {r : Ent → Bool} : ∀ {T : List Ent} {j : Nat}, j < T.length → r (T.getD j default) = true → (∀ j', j' < j → r (T.getD j' default) = false) → T.find? r = some (T.getD j default)
  | [], j, hj, _, _ => absurd hj (Nat.not_lt_zero j)
  | x :: T, 0, _, h1, _ => by have h1 : r x = true := h1; rw [List.find?_cons, h1]; rfl
  | x :: T, j + 1, hj, h1, h0 => by
    have hx : r x = false := h0 0 (Nat.succ_pos _)
    rw [List.find?_cons, hx]
    exact Xl (by simpa using hj) h1 (fun i hi => h0 (i + 1) (by omega))
theorem Vn {r : Ent → Bool} {T : List Ent} (h : ∀ j, j < T.length → r (T.getD j default) = false) : T.find? r = none := by
  rw [List.find?_eq_none]
  intro x hx
  obtain ⟨i, hi, rfl⟩ := List.getElem_of_mem hx
  have := h i hi
  rw [zG _ hi] at this
  rw [this]; decide
theorem YZ {d : Dcl} {l : List Ev} : ∀ {i : Nat}, i < l.length → (zY d l).getD i default = ya d ((zY d l).take i) (l.getD i default) := by
  induction l using xI with
  | h0 => intro i hi; exact absurd hi (Nat.not_lt_zero i)
  | h1 l e ih =>
    intro i hi
    rw [xe]
    have hl := yq d l
    rw [List.length_append, List.length_singleton] at hi
    rcases Nat.lt_or_ge i l.length with h | h
    · rw [List.getD_eq_getElem?_getD, List.getElem?_append_left (by omega), ← List.getD_eq_getElem?_getD, ih h, List.take_append_of_le_length (by omega)]
      congr 1
      rw [List.getD_eq_getElem?_getD, List.getD_eq_getElem?_getD, List.getElem?_append_left h]
    · have e1 : i = l.length := by omega
      subst e1
      rw [List.getD_eq_getElem?_getD, List.getElem?_append_right (by omega), hl, Nat.sub_self, List.take_append_of_le_length (by omega), List.take_of_length_le (by omega)]
      show ya d (zY d l) e = _
      congr 1
      rw [List.getD_eq_getElem?_getD, List.getElem?_append_right (Nat.le_refl _), Nat.sub_self]; rfl
theorem YR {d : Dcl} {l : List Ev} {i : Nat} (h : i < l.length) : ((zY d l).getD i default).ev = l.getD i default := by rw [YZ h]; rfl
theorem take_getD {α : Type} [Inhabited α] {l : List α} {i j : Nat} (h : j < i) : (l.take i).getD j default = l.getD j default := by
  rw [List.getD_eq_getElem?_getD, List.getD_eq_getElem?_getD, List.getElem?_take_of_lt h]
def JR (d : Dcl) (X : List Ent) (i : Nat) (b : Int) : Prop := (¬ yE d (X.getD i default).ev.typ (X.getD i default).ev.field (X.getD i default).ev.op (X.getD i default).ev.arg = 0 ∧ b = -1) ∨ (yE d (X.getD i default).ev.typ (X.getD i default).ev.field (X.getD i default).ev.op (X.getD i default).ev.arg = 0 ∧ JB d X i 0 b)
theorem JR.lt {d : Dcl} {X : List Ent} {i : Nat} {b : Int} (h : JR d X i b) : -1 ≤ b ∧ b < (i : Int) := by
  rcases h with ⟨_, rfl⟩ | ⟨_, ⟨rfl, _⟩ | ⟨j, rfl, _, h2, _⟩⟩ <;> constructor <;> omega
theorem YE {d : Dcl} {l : List Ev} {i : Nat} (hi : i < l.length) (h : ¬ yE d ((zY d l).getD i default).ev.typ ((zY d l).getD i default).ev.field ((zY d l).getD i default).ev.op ((zY d l).getD i default).ev.arg = 0) : ((zY d l).getD i default).void = true ∧ ((zY d l).getD i default).byO = 0 ∧ ((zY d l).getD i default).byS = 0 := by
  rw [YR hi] at h
  rw [YZ hi]
  have := Yc (M := (zY d l).take i) h
  show (zJ _ _ _).1 = true ∧ (zJ _ _ _).2.1 = 0 ∧ (zJ _ _ _).2.2 = 0
  rw [this]; exact ⟨rfl, rfl, rfl⟩
theorem KE {d : Dcl} {l : List Ev} {i : Nat} {b : Int} (hi : i < l.length) (h : JR d (zY d l) i b) : (0 ≤ b → ((zY d l).getD i default).void = true ∧ ((zY d l).getD i default).byO = ((zY d l).getD b.toNat default).ev.origin ∧ ((zY d l).getD i default).byS = ((zY d l).getD b.toNat default).ev.seq) ∧ (b < 0 → ((zY d l).getD i default).byO = 0 ∧ ((zY d l).getD i default).byS = 0) := by
  rcases h with ⟨h1, rfl⟩ | ⟨h1, hb⟩
  · exact ⟨fun h => by omega, fun _ => (YE hi h1).2⟩
  · have hl := yq d l
    have hat := YZ (d := d) hi
    have hev := YR (d := d) hi
    rw [hev] at h1
    have hd : yf ((l.getD i default).typ, (l.getD i default).agg, (l.getD i default).field) ((zY d l).take i) = (((zY d l).take i).filter (on3 ((l.getD i default).typ, (l.getD i default).agg, (l.getD i default).field))).map (·.ev) := rfl
    have hf : ∀ o, (((zY d l).take i).find? (rJ d (l.getD i default))).map (·.ev) = o → (yf ((l.getD i default).typ, (l.getD i default).agg, (l.getD i default).field) ((zY d l).take i)).find? (fun x => yA ((xB d (l.getD i default).typ).fields.getD (l.getD i default).field.toNat default) x (l.getD i default)) = o := by
      intro o ho
      rw [hd, xM, ← ho]
      rfl
    have hlt : ((zY d l).take i).length = i := by rw [List.length_take]; omega
    rcases hb with ⟨rfl, hn⟩ | ⟨j, rfl, _, hj, hjt, hjn⟩
    · refine ⟨fun h => by omega, fun _ => ?_⟩
      have h9 := hf none (by rw [Vn (fun j hj => by rw [hlt] at hj; rw [take_getD hj, ← hev]; exact hn j (Nat.zero_le _) hj)]; rfl)
      rw [hat]
      show (zJ _ _ _).2.1 = 0 ∧ (zJ _ _ _).2.2 = 0
      unfold zJ
      rw [if_neg (by simpa using h1), h9]
      dsimp only
      split <;> exact ⟨rfl, rfl⟩
    · refine ⟨fun _ => ?_, fun h => by omega⟩
      have h9 := hf (some ((zY d l).getD j default).ev) (by
        rw [Xl (j := j) (by rw [hlt]; exact hj) (by rw [take_getD hj, ← hev]; exact hjt) (fun j' hj' => by rw [take_getD (by omega), ← hev]; exact hjn j' (Nat.zero_le _) hj'), take_getD hj]; rfl)
      rw [hat, show ((j : Nat) : Int).toNat = j from rfl]
      show (zJ _ _ _).1 = true ∧ (zJ _ _ _).2.1 = _ ∧ (zJ _ _ _).2.2 = _
      unfold zJ
      rw [if_neg (by simpa using h1), h9]
      exact ⟨rfl, rfl, rfl⟩
theorem yqj {p : Prop} (h : p := by first | omega | (refine ⟨?_, ?_⟩ <;> omega)) : p := h

theorem Vp {d : Dcl} {ty f op arg : Int} (h : yE d ty f op arg = 0) : zK d ty f = (xB d ty).fields.getD f.toNat default := by
  unfold yE at h
  split at h
  · cases h
  · rename_i h1
    have hB : yo d ty f = true := by simpa using h1
    unfold zK; rw [hB]; rfl
theorem QE {d : Dcl} {e : Ev} {y : Ent} {fl : Fld} (hf : fl = (xB d e.typ).fields.getD e.field.toNat default) : rJ d e y = true ↔ (((y.void = false ∧ y.ev.typ = e.typ) ∧ y.ev.agg = e.agg) ∧ y.ev.field = e.field) ∧ yA fl y.ev e = true := by
  subst hf
  unfold rJ on3
  simp only [Bool.and_eq_true, Bool.not_eq_true', decide_eq_true_eq]
  constructor
  · rintro ⟨⟨h1, h2, h3, h4⟩, h5⟩; exact ⟨⟨⟨⟨h1, h2⟩, h3⟩, h4⟩, h5⟩
  · rintro ⟨⟨⟨⟨h1, h2⟩, h3⟩, h4⟩, h5⟩; exact ⟨⟨h1, h2, h3, h4⟩, h5⟩
theorem rj_of {d : Dcl} {e : Ev} {y : Ent} {fl : Fld} (hf : fl = (xB d e.typ).fields.getD e.field.toNat default) (h : (((y.void = false ∧ y.ev.typ = e.typ) ∧ y.ev.agg = e.agg) ∧ y.ev.field = e.field) ∧ yA fl y.ev e = true) : rJ d e y = true := (QE hf).2 h
theorem KS {d : Dcl} {e : Ev} {y : Ent} {fl : Fld} (hf : fl = (xB d e.typ).fields.getD e.field.toNat default) (h : ¬ ((((y.void = false ∧ y.ev.typ = e.typ) ∧ y.ev.agg = e.agg) ∧ y.ev.field = e.field) ∧ yA fl y.ev e = true)) : rJ d e y = false := by
  cases hr : rJ d e y with
  | false => rfl
  | true => exact absurd ((QE hf).1 hr) h
theorem Ju {d : Dcl} {e : Ev} {y : Ent} {fl : Fld} (hf : fl = (xB d e.typ).fields.getD e.field.toNat default) (h : (!y.void && decide (y.ev.typ = e.typ) && decide (y.ev.agg = e.agg) && decide (y.ev.field = e.field)) = false) : rJ d e y = false := by
  refine KS hf (fun h9 => ?_)
  rw [h9.1.1.1.1, decide_eq_true h9.1.1.1.2, decide_eq_true h9.1.1.2, decide_eq_true h9.1.2] at h
  cases h
set_option maxHeartbeats 8000000 in
theorem VE {G : Nat → Prop} {W w : World} {Rs : List HP} {d : Dcl} {dd0 : Value} (hdd0 : RdS W G dd0 d.types) {dd1 : Value} (hdd1 : RdS W G dd1 d.projs) (od : d.Ok) {n : Int} (hn : InR n) {vl : Value} {l : List Ev} (hl : RdS W G vl l) (hKN : RdS W G (.slice (some ⟨0, 0, none⟩) 6 6) kindsL) (hS0 : Sep G W Rs w) : Ret Tryd.prog 5 [.agg (d.cells dd0 dd1).toArray, .int .i64 (n), vl] w (fun r w' => r = (.bool true : Value) ∧ Sep G W Rs w') := by
 have hdd0s : _ * 24 ≤ _ := hdd0.small
 have hdd1s : _ * 40 ≤ _ := hdd1.small
 have hls : _ * 96 ≤ _ := hl.small
 have hKNs : _ * 8 ≤ _ := hKN.small
 refine zl (args := [.agg (d.cells dd0 dd1).toArray, Iv n, vl]) Tryd.func5 rfl rfl ?_
 refine za (R0 fun _ => st (zR (v := .agg (d.cells dd0 dd1).toArray) rfl ?_))
 intro w3 b2 eW
 let ff := Blk b2 (d.cells dd0 dd1).toArray 25
 have ey := hS0.new eW
 refine st (aS (.bool false) (zb (za (za (R0 fun _ => st (zg (k := 2) tT uT rfl rfl (CellsAt.all (ey.b0)) (st (cL mA (YV (d := d) hdd0 hdd1 od ey) ?_))))))))
 rintro _ w7 ⟨b5, rfl, eY, ez⟩
 refine st (yc (a := b5) rfl (zb ?_))
 cases bY : !b5
 try simp only [zf] at bY
 have hdo := eY bY
 refine zi rfl (zk (za (R0 fun _ => st (mV (Iv n) ?_))))
 refine st (cL nY (Xj (x := n) (n := 64) hn yqj ez) ?_)
 rintro _ w12 ⟨aH, rfl, hq11, eD⟩
 have bZ : InR ((1 + aH : Nat) : Int) := bo
 refine st (zH (r := ((1 + aH : Nat) : Int)) (k := .i64) (a := 1) (b := ((aH : Nat) : Int)) rfl rfl (by rw [show (1 + ((aH : Nat) : Int) : Int) = ((1 + aH : Nat) : Int) from bo]; exact zz bZ) (st (mV vl (st (cL nA (Yk (n := ((1 + aH : Nat) : Int)) (l := l) (vl := vl) bZ hl eD) ?_)))))
 rintro y w19 ⟨_, s, rfl, h6017, hft18, ca⟩
 have eE := ca.r0
 have hr21s : _ * 96 ≤ _ := eE.2
 refine st (aS y (zb (za ?_)))
 obtain ⟨G22, eF, M, cb, eG⟩ := ca.lend
 have K := RowE.rdB eF M
 have hrd28s : _ * 96 ≤ _ := K.small
 refine R0 fun _ => st (zg (k := 2) tT uT rfl rfl (CellsAt.all (cb.b0)) (st (mV y (st (cL sR (YH (d := d) (l := s) (vl := y) (RdS.base hdd0 M) (RdS.base hdd1 M) od K (RdS.base hKN M) cb (hdo) (om)) ?_)))))
 rintro _ w30 ⟨bl, rfl, eH⟩
 refine st (aS (Ix bl 0) (zb (za (za (R0 fun _ => st (mV (Ix bl 0) (st (xc (b := bl) (o := 0) tR rfl (zb (zi rfl (zk (za (R0 fun _ => st (mV (Ix bl 0) (st (cL uR (yW  eH) ?_))))))))))))))))
 rintro m t ⟨_, rfl, cc⟩
 have eI := cc.r1
 have hr35s : _ * 120 ≤ _ := eI.2
 refine st (aS m (zb (za (za ?_))))
 have bf := cc.s3_bc
 have eA : ((zY d s)).length = s.length := yq _ _
 obtain ⟨X, hX⟩ : ∃ z, z = (zY d s) := ⟨_, rfl⟩
 rw [← hX] at bf eA
 have eJ := bf.r0
 have hr37s : _ * 120 ≤ _ := eJ.2
 obtain ⟨aI, eK, D, eL, eM⟩ := bf.lend
 have p := RowE.rd eK
 have hrd44s : _ * 120 ≤ _ := p.small
 refine R0 fun _ => st (mV m (st (zA (n := X.length) nT rfl p.sl (st (mV y (st (zA (n := s.length) rT rfl (RdS.base K D).sl (st (yh (k := .i64) (a := ((X.length : Nat) : Int)) (b := ((s.length : Nat) : Int)) rfl rfl ?_)))))))))
 have cF : (!decide (((X.length : Nat) : Int) = ((s.length : Nat) : Int))) = false := (by rw [eA]; simp)
 rw [cF]
 refine zb (zi rfl (zk (za (za (R0 fun _ => st (aS (Iv 0) (zb (zn (zX (fun mq σ wq => ∃ (k : Nat) (ρ : Env), mq = X.length - k ∧ σ = yb ρ [(2, y), (3, Ix b2 0), (8, m), (9, Iw k)] ∧ (k ≤ X.length) ∧ Sep aI t ((Blk b2 (d.cells dd0 dd1).toArray 25) :: Rs) wq) ⟨0, _, rfl, sSf, Nat.zero_le _, eL⟩ ?_)))))))))
 rintro m47 σ48 w46 ⟨k, ρl1, rfl, rfl, hkk, bg⟩
 let fd := s.getD k default
 let aB := X.getD k default
 let fb := (yo d ((aB.ev).typ) ((aB.ev).field))
 let cU := zK d ((aB.ev).typ) ((aB.ev).field)
 let bT := (aB.ev).cells (zy t (sb m) (so m + k * 13 + 3))
 refine za (za (R0 fun _ => st (mV (Iw k) (st (mV m (st (zA (n := X.length) nT rfl p.sl (st (zD (k := .i64) (a := ((k : Nat) : Int)) (b := ((X.length : Nat) : Int)) rfl rfl (zb ?_))))))))))
 cases aJ : decide (((k : Nat) : Int) < ((X.length : Nat) : Int))
 have aJ := fD aJ
 refine zi rfl (zU (zI (za (R0 fun _ => st (cL vR (xj  (RdS.base (RdS.base hKN M) D) bg) ?_)))))
 rintro _ w51 ⟨rfl, eN⟩
 refine st (aS (.bool true) (zb (zm (zL pA (show _ = (.bool true : Value) from rfl) ?_))))
 have eO := eM _ _ eN
 have eP := eG _ _ eO
 refine ⟨rfl, (eP.s3_)⟩
 have aJ := tD aJ
 refine zj rfl (zk (za (zn (za (R0 fun _ => st (mV m (st (mV (Iw k) ?_))))))))
 have eQ : k < X.length := bo
 refine st (ze (k := 13) (i := k) nT pT rfl p.sl rfl eQ (st (xq rfl ?_)))
 have av : k < X.length := bo
 let fe := p.foot (ne_of_lt av)
 obtain ⟨ag, Z, C⟩ := p.entD av
 have hsm59 : ((X.getD k default).ev.deps).length * 8 ≤ 140737488355328 := Z.small
 have cG := bg.cells ag fe
 refine st (zg (k := 10) (cs := [Iv (aB.ev.origin), Iv (aB.ev.seq), Iv (aB.ev.lam), (zy t (sb m) (so m + k * 13 + 3)), Iv (aB.ev.typ), Iv (aB.ev.agg), Iv (aB.ev.field), Iv (aB.ev.op), Iv (aB.ev.arg), Iv (aB.ev.key)]) mR oT rfl rfl (CellsAt.sub cG 0 (cs2 := [Iv (aB.ev.origin), Iv (aB.ev.seq), Iv (aB.ev.lam), (zy t (sb m) (so m + k * 13 + 3)), Iv (aB.ev.typ), Iv (aB.ev.agg), Iv (aB.ev.field), Iv (aB.ev.op), Iv (aB.ev.arg), Iv (aB.ev.key)]) rfl) (st (zr oY ?_)))
 intro w63 N eR
 have cd := bg.new eR
 refine stn (zp (v := .agg bT.toArray) (c' := bT.toArray) oT rfl rfl (cd.b0) (zW ⟨rfl, rfl, rfl, Z.sl.one, rfl, rfl, rfl, rfl, rfl, rfl, trivial⟩) yqc rfl ?_)
 intro w65 eS
 refine zb (za (za ?_))
 refine WD4 ((fun TT eB => WF [fun vals wq => Sep aI t (eB :: TT) wq, fun vals wq => (vals 5 = (.bool (decide ((aB.ev) = fd)) : Value)) ∧ Sep aI t (eB :: TT) wq]) (ff :: Rs) (Blk N bT.toArray 59)) (AF [Vl 0 (.agg bT.toArray), Vl 1 (y), Vl 2 (Iw k), Vl 3 (Ix (sb y) (so y + k * 10)), Vl 4 (.agg (fd.cells (zy t (sb y) (so y + k * 10 + 3))).toArray), fun _ => True, Vl 6 (.bool (!(decide ((aB.ev) = fd))))]) [[], [], [], [1, 2], [1, 2, 3], (rg 5), (rg 6)] [5] [(0, 0), (0, 0), (0, 0), (0, 0), (0, 0), (0, 0), (1, 1)] (cd.pt0 eS) ⟨ob1 0 fun _ _ (cH : Sep _ _ _ _) _ => obl rfl (zg (k := 10) mR oT rfl rfl (CellsAt.all (cH.b0)) dR), fun _ _ _ _ _ _ _ => obl rfl (mV y dR), fun _ _ _ _ _ _ _ => obl rfl (mV (Iw k) dR), ?_, ?_, ?_, ?_, trivial⟩ ?_
 refine ob1 0 fun _ _ _ bm => (obl rfl ?_)
 have cI : k < s.length := bo
 exact ze (k := 10) (i := k) rT oT (bm 1 dc) (RdS.base K D).sl (bm 2 dc) cI dR
 refine ob1 0 fun _ _ (cJ : Sep _ _ _ _) cK => (obl rfl ?_)
 have bn : k < s.length := bo
 obtain ⟨ce, bh, hoke169⟩ := (RdS.base K D).evD bn
 have hsm171 : ((s.getD k default).deps).length * 8 ≤ 140737488355328 := bh.small
 have cf := cJ.cells ce ((RdS.base K D).foot (ne_of_lt bn))
 exact zg (k := 10) mR oT rfl (cK 3 dc) cf dR
 refine ob1 0 fun vals _ (bp : Sep _ _ _ _) bq => (obl rfl ?_)
 have br : k < s.length := bo
 obtain ⟨cg, aC, bU⟩ := (RdS.base K D).evD br
 have hsm120 : ((s.getD k default).deps).length * 8 ≤ 140737488355328 := aC.small
 have hcw121 := bp.cells cg ((RdS.base K D).foot (ne_of_lt br))
 refine (zV (f := 39) (vals := [.agg bT.toArray, .agg (fd.cells (zy t (sb y) (so y + k * 10 + 3))).toArray]) (cap := []) rfl (yH ⟨(bq 0 dc), (bq 4 dc), trivial⟩) Tryd.call39 (YF (a := (aB.ev)) (b := fd) Z C.ev aC bU bp) ?_)
 rintro _ w122 ⟨rfl, cM⟩
 exact fun g h hv' => ⟨(And.intro h cM), trivial⟩
 refine ob1 1 fun _ _ cN _ => ?_
 obtain ⟨bs, hS179⟩ := cN
 exact obl rfl (yc (a := decide ((aB.ev) = fd)) bs dR)
 intro vals w180 cO cP
 obtain ⟨bs, aa⟩ := cO
 have eT := cP 6 dc
 refine zZ (kv := [(2, y), (3, Ix b2 0), (8, m), (9, Iw k), (37, Iw k), (38, m), (39, Iw X.length), (40, .bool true), (43, m), (44, Iw k), (45, Ix (sb m) (so m + k * 13)), (46, Ix (sb m) (so m + k * 13)), (47, .agg bT.toArray), (10, Ix N 0), (54, .bool (!(decide ((aB.ev) = fd))))]) ⟨rfl, rfl, rfl, rfl, rfl, rfl, rfl, rfl, rfl, rfl, rfl, rfl, rfl, rfl, (by exact eT), trivial⟩ (fun ρw180 => (zb ?_))
 cases ab : !(decide (((X.getD k default).ev) = (s.getD k default)))
 have ab := zB ab
 refine zi rfl (zk (za (R0 fun _ => st (aS (Iv (-1)) (zb (za (za (R0 fun _ => st (zg (k := 2) tT uT rfl rfl (CellsAt.all (aa.b1)) (st (yB rfl (st (lD (Iv ((aB.ev).typ)) lT rfl (zd (aa.b0) rfl) (st (yU rfl (st (lD (Iv ((aB.ev).field)) lT rfl (zd (aa.b0) rfl) (st (xh rfl (st (lD (Iv ((aB.ev).op)) lT rfl (zd (aa.b0) rfl) (st (xg rfl (st (lD (Iv ((aB.ev).arg)) lT rfl (zd (aa.b0) rfl) (st (cL Tryd.call15 (QZ (d := d) (ty := (aB.ev).typ) (f := (aB.ev).field) (op := (aB.ev).op) (arg := (aB.ev).arg) (RdS.base (RdS.base hdd0 M) D) (RdS.base (RdS.base hdd1 M) D) od C.ev.typ C.ev.field C.ev.op C.ev.arg (RdS.base (RdS.base hKN M) D) aa) ?_)))))))))))))))))))))))))))
 rintro _ w186 ⟨rfl, ac⟩
 refine st (zF (k := .i64) (a := yE d ((aB.ev).typ) ((aB.ev).field) ((aB.ev).op) ((aB.ev).arg)) (b := 0) rfl rfl (zb (Um (fun σ wq => ∃ (b : Int) (ρ : Env), σ = yb ρ [(2, y), (3, Ix b2 0), (8, m), (9, Iw k), (10, Ix N 0), (11, Iv b)] ∧ (JR d X k b) ∧ Sep aI t ((Blk N bT.toArray 59) :: ff :: Rs) wq) ?_ ?_)))
 cases L : decide ((yE d (((X.getD k default).ev).typ) (((X.getD k default).ev).field) (((X.getD k default).ev).op) (((X.getD k default).ev).arg)) = 0)
 have L := fD L
 refine zi rfl (za (R0 fun _ => st (mV m (st (mV (Iw k) ?_)))))
 have cQ : k < X.length := bo
 refine st (ze (k := 13) (i := k) nT pT rfl p.sl rfl cQ (st (xa rfl ?_)))
 have ch := ac.cells ag fe
 refine st (lD (.bool (aB.void)) rR rfl (ch.get (j := 10) rfl) (st (yc (a := aB.void) rfl (zb ?_))))
 cases aK : !((X.getD k default).void)
 try simp only [zf] at aK
 refine zi rfl (zk ?_)
 exact ⟨rfl, -1, _, xv ⟨(show _ = (y : Value) from rfl), (show _ = (Ix b2 0 : Value) from rfl), (show _ = (m : Value) from rfl), (show _ = (Iw k : Value) from rfl), (show _ = (Ix N 0 : Value) from rfl), (show _ = (Iv (-1) : Value) from rfl), trivial⟩, (.inl ⟨L, rfl⟩), ac⟩
 try simp only [zf] at aK
 exfalso
 have h9 := YE (d := d) (l := s) (i := k) (by omega) (by rw [← hX]; exact L)
 rw [← hX, aK] at h9
 cases h9.1
 have L := tD L
 refine zj rfl (za (R0 fun _ => st (zg (k := 2) tT uT rfl rfl (CellsAt.all (ac.b1)) (st (yB rfl (st (lD (Iv ((aB.ev).typ)) lT rfl (zd (ac.b0) rfl) (st (yU rfl (st (lD (Iv ((aB.ev).field)) lT rfl (zd (ac.b0) rfl) (st (cL Tryd.call40 (Ul (d := d) (ty := (aB.ev).typ) (f := (aB.ev).field) (RdS.base (RdS.base hdd0 M) D) (RdS.base (RdS.base hdd1 M) D) od C.ev.typ C.ev.field ac) ?_)))))))))))))
 rintro _ w195 ⟨P, rfl, bV, bt⟩
 have bu := bt.r0
 have hr197s : _ * 32 ≤ _ := bu.2
 refine st (mV (.tuple #[.agg (cU.cells P).toArray, .bool fb]) (st (zt (vs := [.agg (cU.cells P).toArray, .bool fb]) (i := 0) (v := .agg (cU.cells P).toArray) rfl rfl (st (zt (vs := [.agg (cU.cells P).toArray, .bool fb]) (i := 1) (v := .bool fb) rfl rfl (st (zr tY ?_)))))))
 intro w200 ci cR
 have bv := bt.new cR
 refine stn (zp (v := .agg (cU.cells P).toArray) (c' := (cU.cells P).toArray) nR rfl rfl (bv.b0) (zW ⟨rfl, rfl, rfl, bu.1.one, trivial⟩) yqc rfl ?_)
 intro w202 cS
 refine st (aS (.bool fb) (zb (za ?_)))
 have bi := Vp L
 refine R0 fun _ => st (mV (Iw k) ?_)
 have cT : InR (((k : Nat) : Int) - 1) := by omega
 refine st (Zu (r := ((k : Nat) : Int) - 1) (k := .i64) (a := ((k : Nat) : Int)) (b := 1) rfl rfl (zz cT) (st (aS (Iv (((k : Nat) : Int) - 1)) (zb (zn (zX (fun mq σ wq => ∃ (q : Nat) (b : Int) (ρ : Env), mq = q + 1 ∧ σ = yb ρ [(2, y), (3, Ix b2 0), (8, m), (9, Iw k), (10, Ix N 0), (12, Ix ci 0), (11, Iv b), (14, Iv (((q : Nat) : Int) - 1))] ∧ (q ≤ k) ∧ (-1 ≤ b ∧ b < 1000) ∧ (JB d X k q b) ∧ Sep aI t ((Blk ci ((zK d (((X.getD k default).ev).typ) (((X.getD k default).ev).field)).cells P).toArray 79) :: (RowE (α := Mv) own 115 P ((zK d (((X.getD k default).ev).typ) (((X.getD k default).ev).field)).moves)) :: (Blk N (((X.getD k default).ev).cells (zy t (sb m) (so m + k * 13 + 3))).toArray 59) :: (Blk b2 (d.cells dd0 dd1).toArray 25) :: Rs) wq) ⟨k, -1, _, rfl, sSf, Nat.le_refl _, ⟨by omega, by omega⟩, JB.start, (bv.pt0 cS)⟩ ?_))))))
 rintro m207 σ208 w206 ⟨q, b, ρl2, rfl, rfl, hqk, hb9, hJ, aL⟩
 let fa := (Iv (((q : Nat) : Int) - 1))
 let eV := (zy t (sb m) (so m + ((((q : Nat) : Int) - 1).toNat) * 13 + 3))
 let aD := (X.getD ((((q : Nat) : Int) - 1).toNat) default)
 let fg := ((aD.ev).field) = ((aB.ev).field)
 let fc := ((aD.ev).agg) = ((aB.ev).agg)
 let eX := decide (((aD.ev).typ) = ((aB.ev).typ))
 refine za (za (R0 fun _ => st (mV fa (st (yV (k := .i64) (a := ((q : Nat) : Int) - 1) (b := 0) rfl rfl (zb ?_))))))
 cases aw : decide (0 ≤ (((q : Nat) : Int) - 1))
 have aw := fD aw
 refine zi rfl (zU ?_)
 try simp only [Qy]
 refine zI ?_
 have eZ : q = 0 := by omega
 rw [eZ] at hJ
 exact ⟨rfl, b, _, xv ⟨(show _ = (y : Value) from rfl), (show _ = (Ix b2 0 : Value) from rfl), (show _ = (m : Value) from rfl), (show _ = (Iw k : Value) from rfl), (show _ = (Ix N 0 : Value) from rfl), (show _ = (Iv b : Value) from rfl), trivial⟩, (.inr ⟨L, hJ⟩), (aL.s4_cd)⟩
 have aw := tD aw
 refine zj rfl (zk (za (zn (za (R0 fun _ => st (mV m (st (mV fa ?_))))))))
 have hi212 : (((q : Nat) : Int) - 1).toNat < X.length := bo
 refine st (zq (k := 13) (i := ((q : Nat) : Int) - 1) nT pT rfl p.sl rfl ⟨by omega, by omega⟩ (st (xq rfl ?_)))
 have aM : (((q : Nat) : Int) - 1).toNat < X.length := bo
 obtain ⟨aY, af, bW⟩ := p.entD aM
 have hsm215 : ((X.getD ((((q : Nat) : Int) - 1).toNat) default).ev.deps).length * 8 ≤ 140737488355328 := af.small
 have cj := aL.cells aY (p.foot (ne_of_lt aM))
 refine st (zg (k := 10) (cs := [Iv (aD.ev.origin), Iv (aD.ev.seq), Iv (aD.ev.lam), eV, Iv (aD.ev.typ), Iv (aD.ev.agg), Iv (aD.ev.field), Iv (aD.ev.op), Iv (aD.ev.arg), Iv (aD.ev.key)]) mR oT rfl rfl (CellsAt.sub cj 0 (cs2 := [Iv (aD.ev.origin), Iv (aD.ev.seq), Iv (aD.ev.lam), eV, Iv (aD.ev.typ), Iv (aD.ev.agg), Iv (aD.ev.field), Iv (aD.ev.op), Iv (aD.ev.arg), Iv (aD.ev.key)]) rfl) ?_)
 refine st (zr oY ?_)
 intro w219 bj cV
 have bw := aL.new cV
 refine stn (zp (v := .agg ((aD.ev).cells eV).toArray) (c' := ((aD.ev).cells eV).toArray) oT rfl rfl (bw.b0) (zW ⟨rfl, rfl, rfl, af.sl.one, rfl, rfl, rfl, rfl, rfl, rfl, trivial⟩) yqc rfl ?_)
 intro w221 cW
 have u := bw.pt0 cW
 refine zb (za (zw kr (st (mV m (st (mV fa ?_))))))
 have hi224 : (((q : Nat) : Int) - 1).toNat < X.length := bo
 refine st (zq (k := 13) (i := ((q : Nat) : Int) - 1) nT pT rfl p.sl rfl ⟨by omega, by omega⟩ (st (xa rfl ?_)))
 have ck := u.cells aY (p.foot (ne_of_lt aM))
 refine st (lD (.bool (aD.void)) rR rfl (ck.get (j := 10) rfl) (st (yc (a := aD.void) rfl (st (mV (.bool (!(aD.void))) (stc (V := Ix bj 4) rfl rfl (fun cX => ?_) ?_))))))
 have cY := cX
 try simp only [zf] at cY
 exact yB rfl ⟨rfl, rfl⟩
 refine stc (V := Iv ((aD.ev).typ)) rfl rfl (fun bx => ?_) ?_
 have cZ := bx
 try simp only [zf] at cZ
 exact lD (Iv ((aD.ev).typ)) lT (if_pos bx) (zd (u.b0) rfl) ⟨rfl, rfl⟩
 refine stc (V := Ix N 4) rfl rfl (fun da => ?_) ?_
 have db := da
 try simp only [zf] at db
 exact yB rfl ⟨rfl, rfl⟩
 refine stc (V := Iv ((aB.ev).typ)) rfl rfl (fun bz => ?_) ?_
 have dd := bz
 try simp only [zf] at dd
 exact lD (Iv ((aB.ev).typ)) lT (if_pos bz) (zd (u.b3) rfl) ⟨rfl, rfl⟩
 refine stc (V := .bool eX) rfl rfl (fun aN => ?_) ?_
 have de := aN
 try simp only [zf] at de
 exact zF (k := .i64) (a := (aD.ev).typ) (b := (aB.ev).typ) (if_pos aN) (if_pos aN) ⟨rfl, rfl⟩
 refine st (zo (b := !(aD.void)) (b' := decide (((aD.ev).typ) = ((aB.ev).typ))) rfl (fun hbp => (if_pos hbp)) (st (mV (.bool ((!(aD.void)) && eX)) (stc (V := Ix bj 5) rfl rfl (fun df => ?_) ?_))))
 have dg := df
 try simp only [zf] at dg
 exact xl rfl ⟨rfl, rfl⟩
 refine stc (V := Iv ((aD.ev).agg)) rfl rfl (fun bA => ?_) ?_
 have dh := bA
 try simp only [zf] at dh
 exact lD (Iv ((aD.ev).agg)) lT (if_pos bA) (zd (u.b0) rfl) ⟨rfl, rfl⟩
 refine stc (V := Ix N 5) rfl rfl (fun di => ?_) ?_
 have dj := di
 try simp only [zf] at dj
 exact xl rfl ⟨rfl, rfl⟩
 refine stc (V := Iv ((aB.ev).agg)) rfl rfl (fun bB => ?_) ?_
 have dk := bB
 try simp only [zf] at dk
 exact lD (Iv ((aB.ev).agg)) lT (if_pos bB) (zd (u.b3) rfl) ⟨rfl, rfl⟩
 refine stc (V := .bool (decide fc)) rfl rfl (fun aO => ?_) ?_
 have dl := aO
 try simp only [zf] at dl
 exact zF (k := .i64) (a := (aD.ev).agg) (b := (aB.ev).agg) (if_pos aO) (if_pos aO) ⟨rfl, rfl⟩
 refine st (zo (b := (!(aD.void)) && eX) (b' := decide fc) rfl (fun hbp => (if_pos hbp)) (st (mV (.bool (((!(aD.void)) && eX) && (decide fc))) (stc (V := Ix bj 6) rfl rfl (fun dm => ?_) ?_))))
 have dp := dm
 try simp only [zf] at dp
 exact yU rfl ⟨rfl, rfl⟩
 refine stc (V := Iv ((aD.ev).field)) rfl rfl (fun bC => ?_) ?_
 have dq := bC
 try simp only [zf] at dq
 exact lD (Iv ((aD.ev).field)) lT (if_pos bC) (zd (u.b0) rfl) ⟨rfl, rfl⟩
 refine stc (V := Ix N 6) rfl rfl (fun dr => ?_) ?_
 have ds := dr
 try simp only [zf] at ds
 exact yU rfl ⟨rfl, rfl⟩
 refine stc (V := Iv ((aB.ev).field)) rfl rfl (fun bD => ?_) ?_
 have dt := bD
 try simp only [zf] at dt
 exact lD (Iv ((aB.ev).field)) lT (if_pos bD) (zd (u.b3) rfl) ⟨rfl, rfl⟩
 refine stc (V := .bool (decide fg)) rfl rfl (fun aP => ?_) ?_
 have du := aP
 try simp only [zf] at du
 exact zF (k := .i64) (a := (aD.ev).field) (b := (aB.ev).field) (if_pos aP) (if_pos aP) ⟨rfl, rfl⟩
 refine st (zo (b := ((!(aD.void)) && eX) && (decide fc)) (b' := decide fg) rfl (fun hbp => (if_pos hbp)) (st (mV (.bool ((((!(aD.void)) && eX) && (decide fc)) && (decide fg))) (stc (V := .agg (cU.cells P).toArray) rfl rfl (fun dv => ?_) ?_))))
 have dw := dv
 try simp only [zf] at dw
 exact zg (k := 4) sY nR rfl rfl (CellsAt.all (u.b1)) ⟨rfl, rfl⟩
 refine stc (V := .agg ((aD.ev).cells eV).toArray) rfl rfl (fun dx => ?_) ?_
 have dy := dx
 try simp only [zf] at dy
 exact zg (k := 10) mR oT rfl rfl (CellsAt.all (u.b0)) ⟨rfl, rfl⟩
 refine stc (V := .agg bT.toArray) rfl rfl (fun dz => ?_) ?_
 have dB := dz
 try simp only [zf] at dB
 exact zg (k := 10) mR oT rfl rfl (CellsAt.all (u.b3)) ⟨rfl, rfl⟩
 cases ax : (((!((X.getD ((((q : Nat) : Int) - 1).toNat) default).void)) && (decide ((((X.getD ((((q : Nat) : Int) - 1).toNat) default).ev).typ) = (((X.getD k default).ev).typ)))) && (decide ((((X.getD ((((q : Nat) : Int) - 1).toNat) default).ev).agg) = (((X.getD k default).ev).agg)))) && (decide ((((X.getD ((((q : Nat) : Int) - 1).toNat) default).ev).field) = (((X.getD k default).ev).field)))
 have cl := ax
 try simp only [zf] at ax
 have aZ := JB.miss om hqk hJ (Ju (d := d) bi cl)
 refine stx rfl rfl (st (zO (v := .bool false) rfl rfl (zb (zi rfl (zk (R0 fun _ => st (mV fa ?_)))))))
 have dC : InR (((q - 1 : Nat) : Int) - 1) := om
 refine st (Zu (r := ((q - 1 : Nat) : Int) - 1) (k := .i64) (a := ((q : Nat) : Int) - 1) (b := 1) rfl rfl (by rw [show ((((q : Nat) : Int) - 1) - 1 : Int) = ((q - 1 : Nat) : Int) - 1 from (by omega)]; exact zz dC) (st (aS (Iv (((q - 1 : Nat) : Int) - 1)) (zb ?_))))
 exact ⟨_, by omega, q - 1, b, _, rfl, sSf, by omega, ⟨by omega, by omega⟩, aZ, (u.s5_bcde)⟩
 try simp only [zf] at ax
 obtain ⟨G267, dD, bE, dE, dF⟩ := (u.mv2).lend
 have ba := RowE.rd dD
 have hrd273s : _ * 32 ≤ _ := ba.small
 refine sty rfl rfl (cL Tryd.call41 (Uz (f := cU) (x := (aD.ev)) (e := (aB.ev)) ba bV (RdS.base af bE) bW.ev (RdS.base Z bE) C.ev dE) ?_)
 rintro _ w274 ⟨rfl, dG⟩
 have bF := dF _ _ dG
 refine st (zN (v := .bool ((yA cU (aD.ev) (aB.ev)))) rfl rfl (zb ?_))
 cases aQ : (yA (zK d (((X.getD k default).ev).typ) (((X.getD k default).ev).field)) ((X.getD ((((q : Nat) : Int) - 1).toNat) default).ev) ((X.getD k default).ev))
 have aZ := JB.miss (by omega) hqk hJ (KS (d := d) bi (fun h9 => by rw [h9.2] at aQ; cases aQ))
 refine zi rfl (zk (R0 fun _ => st (mV fa ?_)))
 have dH : InR (((q - 1 : Nat) : Int) - 1) := om
 refine st (Zu (r := ((q - 1 : Nat) : Int) - 1) (k := .i64) (a := ((q : Nat) : Int) - 1) (b := 1) rfl rfl (by rw [show ((((q : Nat) : Int) - 1) - 1 : Int) = ((q - 1 : Nat) : Int) - 1 from (by omega)]; exact zz dH) (st (aS (Iv (((q - 1 : Nat) : Int) - 1)) (zb ?_))))
 exact ⟨_, by omega, q - 1, b, _, rfl, sSf, by omega, ⟨by omega, by omega⟩, aZ, (bF.s5_cade)⟩
 have aZ := JB.hit (c := ((q : Nat) : Int) - 1) (d := d) om hqk (rj_of (d := d) bi ⟨ax, aQ⟩) rfl
 refine zj rfl (R0 fun _ => st (mV fa (st (aS fa (zb (R0 fun _ => st (mV fa ?_)))))))
 have dI : InR (((q - 1 : Nat) : Int) - 1) := om
 refine st (Zu (r := ((q - 1 : Nat) : Int) - 1) (k := .i64) (a := ((q : Nat) : Int) - 1) (b := 1) rfl rfl (by rw [show ((((q : Nat) : Int) - 1) - 1 : Int) = ((q - 1 : Nat) : Int) - 1 from (by omega)]; exact zz dI) (st (aS (Iv (((q - 1 : Nat) : Int) - 1)) (zb ?_))))
 exact ⟨_, by omega, q - 1, ((q : Nat) : Int) - 1, _, rfl, sSf, by omega, ⟨by omega, by omega⟩, aZ, (bF.s5_cade)⟩
 rintro _ w282 ⟨b, ρj1, rfl, eC, dJ⟩
 let eU := (decide (0 ≤ b)) = true
 let be := X.getD b.toNat default
 have hbl := eC.lt
 refine za ?_
 refine WD4 (WF [fun vals wq => Sep aI t ((Blk N bT.toArray 59) :: ff :: Rs) wq]) (AF [Vl 0 (Iv b), Vl 1 (.bool (decide (0 ≤ b))), Vl 2 (.bool (decide (0 ≤ b))), Vl 3 (if (decide (0 ≤ b)) = true then m else undef), Vl 4 (if (decide (0 ≤ b)) = true then Iw k else undef), Vl 5 (if (decide (0 ≤ b)) = true then Ix (sb m) (so m + k * 13) else undef), Vl 6 (if (decide (0 ≤ b)) = true then Ix (sb m) (so m + k * 13 + 10) else undef), Vl 7 (if (decide (0 ≤ b)) = true then .bool (aB.void) else undef), Vl 8 (if (decide (0 ≤ b)) = true then .bool (!(aB.void)) else undef), Vl 9 (if (decide (0 ≤ b)) = true then .bool (!(aB.void)) else undef), Vl 10 (if eU ∧ (!(aB.void)) = false then m else undef), Vl 11 (if eU ∧ (!(aB.void)) = false then Iw k else undef), Vl 12 (if eU ∧ (!(aB.void)) = false then Ix (sb m) (so m + k * 13) else undef), Vl 13 (if eU ∧ (!(aB.void)) = false then Ix (sb m) (so m + k * 13 + 11) else undef), Vl 14 (if eU ∧ (!(aB.void)) = false then .agg #[Iv (aB.byO), Iv (aB.byS)] else undef), Vl 15 (if eU ∧ (!(aB.void)) = false then m else undef), Vl 16 (if eU ∧ (!(aB.void)) = false then Iv b else undef), Vl 17 (if eU ∧ (!(aB.void)) = false then Ix (sb m) (so m + b.toNat * 13) else undef), Vl 18 (if eU ∧ (!(aB.void)) = false then Ix (sb m) (so m + b.toNat * 13) else undef), Vl 19 (if eU ∧ (!(aB.void)) = false then Ix (sb m) (so m + b.toNat * 13) else undef), Vl 20 (if eU ∧ (!(aB.void)) = false then .agg #[Iv (be.ev.origin), Iv (be.ev.seq)] else undef), Vl 21 (if eU ∧ (!(aB.void)) = false then .bool (!decide (aB.byO = be.ev.origin ∧ aB.byS = be.ev.seq)) else undef), Vl 22 (if (decide (0 ≤ b)) = true then .bool ((!(aB.void)) || (!decide (aB.byO = be.ev.origin ∧ aB.byS = be.ev.seq))) else undef), Vl 23 (.bool ((decide (0 ≤ b)) && ((!(aB.void)) || (!decide (aB.byO = be.ev.origin ∧ aB.byS = be.ev.seq))))), Vl 24 (.bool ((decide (0 ≤ b)) && ((!(aB.void)) || (!decide (aB.byO = be.ev.origin ∧ aB.byS = be.ev.seq))))), Vl 25 (if ((decide (0 ≤ b)) && ((!(aB.void)) || (!decide (aB.byO = be.ev.origin ∧ aB.byS = be.ev.seq)))) = false then Iv b else undef), Vl 26 (if ((decide (0 ≤ b)) && ((!(aB.void)) || (!decide (aB.byO = be.ev.origin ∧ aB.byS = be.ev.seq)))) = false then .bool (decide (b < 0)) else undef), Vl 27 (if ((decide (0 ≤ b)) && ((!(aB.void)) || (!decide (aB.byO = be.ev.origin ∧ aB.byS = be.ev.seq)))) = false then .bool (decide (b < 0)) else undef), Vl 28 (if (((decide (0 ≤ b)) && ((!(aB.void)) || (!decide (aB.byO = be.ev.origin ∧ aB.byS = be.ev.seq)))) = false) ∧ (decide (b < 0)) = true then m else undef), Vl 29 (if (((decide (0 ≤ b)) && ((!(aB.void)) || (!decide (aB.byO = be.ev.origin ∧ aB.byS = be.ev.seq)))) = false) ∧ (decide (b < 0)) = true then Iw k else undef), Vl 30 (if (((decide (0 ≤ b)) && ((!(aB.void)) || (!decide (aB.byO = be.ev.origin ∧ aB.byS = be.ev.seq)))) = false) ∧ (decide (b < 0)) = true then Ix (sb m) (so m + k * 13) else undef), Vl 31 (if (((decide (0 ≤ b)) && ((!(aB.void)) || (!decide (aB.byO = be.ev.origin ∧ aB.byS = be.ev.seq)))) = false) ∧ (decide (b < 0)) = true then Ix (sb m) (so m + k * 13 + 11) else undef), Vl 32 (if (((decide (0 ≤ b)) && ((!(aB.void)) || (!decide (aB.byO = be.ev.origin ∧ aB.byS = be.ev.seq)))) = false) ∧ (decide (b < 0)) = true then .agg #[Iv (aB.byO), Iv (aB.byS)] else undef), Vl 33 (if (((decide (0 ≤ b)) && ((!(aB.void)) || (!decide (aB.byO = be.ev.origin ∧ aB.byS = be.ev.seq)))) = false) ∧ (decide (b < 0)) = true then .agg #[Iv 0, Iv 0] else undef), Vl 34 (if (((decide (0 ≤ b)) && ((!(aB.void)) || (!decide (aB.byO = be.ev.origin ∧ aB.byS = be.ev.seq)))) = false) ∧ (decide (b < 0)) = true then .bool (!decide (aB.byO = 0 ∧ aB.byS = 0)) else undef), Vl 35 (if ((decide (0 ≤ b)) && ((!(aB.void)) || (!decide (aB.byO = be.ev.origin ∧ aB.byS = be.ev.seq)))) = false then .bool ((decide (b < 0)) && (!decide (aB.byO = 0 ∧ aB.byS = 0))) else undef), Vl 36 (.bool (((decide (0 ≤ b)) && ((!(aB.void)) || (!decide (aB.byO = be.ev.origin ∧ aB.byS = be.ev.seq)))) || ((decide (b < 0)) && (!decide (aB.byO = 0 ∧ aB.byS = 0)))))]) [[], [0], [0, 1], [0, 1, 2], [0, 1, 2], (rg 5), (rg 6), (rg 7), (rg 8), (rg 9), (rg 10), (rg 10), (rg 12), (rg 13), (rg 14), (rg 10), (rg 10), [0, 1, 2, 3, 4, 5, 6, 7, 8, 9, 15, 16], [0, 1, 2, 3, 4, 5, 6, 7, 8, 9, 15, 16, 17], [0, 1, 2, 3, 4, 5, 6, 7, 8, 9, 15, 16, 17, 18], [0, 1, 2, 3, 4, 5, 6, 7, 8, 9, 15, 16, 17, 18, 19], (rg 21), (rg 22), (rg 23), (rg 24), (rg 25), (rg 26), (rg 27), (rg 28), (rg 28), (rg 30), (rg 31), (rg 32), (rg 28), (rg 34), (rg 35), (rg 36)] [] [(0, 0), (0, 0), (0, 0), (0, 0), (0, 0), (0, 0), (0, 0), (0, 0), (0, 0), (0, 0), (0, 0), (0, 0), (0, 0), (0, 0), (0, 0), (0, 0), (0, 0), (0, 0), (0, 0), (0, 0), (0, 0), (0, 0), (0, 0), (0, 0), (0, 0), (0, 0), (0, 0), (0, 0), (0, 0), (0, 0), (0, 0), (0, 0), (0, 0), (0, 0), (0, 0), (0, 0), (0, 0)] dJ ⟨fun _ _ _ _ _ _ _ => obl rfl (mV (Iv b) dR), ob1 0 fun _ _ _ dK => obl rfl (yV (k := .i64) (a := b) (b := 0) (dK 0 dc) rfl dR), fun _ _ _ _ _ _ dL => obl rfl (zP (v := .bool (decide (0 ≤ b))) (dL 1 dc) dR), ?_, ?_, ?_, ?_, ?_, ?_, ?_, ?_, ?_, ?_, ?_, ?_, ?_, ?_, ?_, ?_, ?_, ?_, ?_, ?_, fun _ _ _ _ _ _ bG => obl rfl (zo (b := decide (0 ≤ b)) (b' := (!(aB.void)) || (!decide (aB.byO = be.ev.origin ∧ aB.byS = be.ev.seq))) (bG 2 dc) (fun hbp => (Eq.trans (bG 22 dc) (if_pos hbp))) dR), fun _ _ _ _ _ _ dM => obl rfl (zP (v := .bool ((decide (0 ≤ b)) && ((!(aB.void)) || (!decide (aB.byO = be.ev.origin ∧ aB.byS = be.ev.seq))))) (dM 23 dc) dR), ?_, ?_, ?_, ?_, ?_, ?_, ?_, ?_, ?_, ?_, ?_, fun _ _ _ _ _ _ bb => obl rfl (zx (b := (decide (0 ≤ b)) && ((!(aB.void)) || (!decide (aB.byO = be.ev.origin ∧ aB.byS = be.ev.seq)))) (b' := (decide (b < 0)) && (!decide (aB.byO = 0 ∧ aB.byS = 0))) (bb 24 dc) (fun hbp => (Eq.trans (bb 35 dc) (if_pos hbp))) dR), trivial⟩ ?_
 refine fun _ _ _ _ _ _ dN => (zC rfl rfl (dN 2 dc) (fun ay => ?_) (fun ay => fun g h _ => ⟨trivial, h.trans (if_neg ay).symm⟩))
 have hl709 := tD ay
 exact mV m (fun g h _ => ⟨rfl, h.trans (if_pos ay).symm⟩)
 refine fun _ _ _ _ _ _ dO => (zC rfl rfl (dO 2 dc) (fun az => ?_) (fun az => fun g h _ => ⟨trivial, h.trans (if_neg az).symm⟩))
 have hl718 := tD az
 exact mV (Iw k) (fun g h _ => ⟨rfl, h.trans (if_pos az).symm⟩)
 refine ob1 0 fun _ _ _ aR => (zC rfl rfl (aR 2 dc) (fun ad => ?_) (fun ad => fun g h _ => ⟨trivial, h.trans (if_neg ad).symm⟩))
 have hl730 := tD ad
 have dP : k < X.length := bo
 exact ze (k := 13) (i := k) nT pT (Eq.trans (aR 3 dc) (if_pos ad)) p.sl (Eq.trans (aR 4 dc) (if_pos ad)) dP (fun g h _ => ⟨rfl, h.trans (if_pos ad).symm⟩)
 refine fun _ _ _ _ _ _ bH => (zC rfl rfl (bH 2 dc) (fun ah => ?_) (fun ah => fun g h _ => ⟨trivial, h.trans (if_neg ah).symm⟩))
 have hl741 := tD ah
 exact xa (Eq.trans (bH 5 dc) (if_pos ah)) (fun g h _ => ⟨rfl, h.trans (if_pos ah).symm⟩)
 refine ob1 0 fun _ _ (dQ : Sep _ _ _ _) bI => (zC rfl rfl (bI 2 dc) (fun ai => ?_) (fun ai => fun g h _ => ⟨trivial, h.trans (if_neg ai).symm⟩))
 have hl752 := tD ai
 have cm := dQ.cells ag fe
 exact lD (.bool (aB.void)) rR (Eq.trans (bI 6 dc) (if_pos ai)) (cm.get (j := 10) rfl) (fun g h _ => ⟨rfl, h.trans (if_pos ai).symm⟩)
 refine fun _ _ _ _ _ _ bJ => (zC rfl rfl (bJ 2 dc) (fun aj => ?_) (fun aj => fun g h _ => ⟨trivial, h.trans (if_neg aj).symm⟩))
 have hl764 := tD aj
 exact yc (a := aB.void) (Eq.trans (bJ 7 dc) (if_pos aj)) (fun g h _ => ⟨rfl, h.trans (if_pos aj).symm⟩)
 refine fun _ _ _ _ _ _ bK => (zC rfl rfl (bK 2 dc) (fun ak => ?_) (fun ak => fun g h _ => ⟨trivial, h.trans (if_neg ak).symm⟩))
 have hl774 := tD ak
 exact zP (v := .bool (!(aB.void))) (Eq.trans (bK 8 dc) (if_pos ak)) (fun g h _ => ⟨rfl, h.trans (if_pos ak).symm⟩)
 refine fun _ _ _ _ _ _ dS => (yy rfl rfl (dS 9 dc) (fun al => ?_) (fun al => fun g h _ => ⟨trivial, h.trans (if_neg al).symm⟩))
 have hl783 := tD al.1
 have dU := al.2
 try simp only [zf] at dU
 exact mV m (fun g h _ => ⟨rfl, h.trans (if_pos al).symm⟩)
 refine fun _ _ _ _ _ _ dV => (yy rfl rfl (dV 9 dc) (fun am => ?_) (fun am => fun g h _ => ⟨trivial, h.trans (if_neg am).symm⟩))
 have hl793 := tD am.1
 have dW := am.2
 try simp only [zf] at dW
 exact mV (Iw k) (fun g h _ => ⟨rfl, h.trans (if_pos am).symm⟩)
 refine ob1 0 fun _ _ _ aT => (yy rfl rfl (aT 9 dc) (fun E => ?_) (fun E => fun g h _ => ⟨trivial, h.trans (if_neg E).symm⟩))
 have hl806 := tD E.1
 have dX := E.2
 try simp only [zf] at dX
 have dY : k < X.length := bo
 exact ze (k := 13) (i := k) nT pT (Eq.trans (aT 10 dc) (if_pos ⟨E.1, E.2⟩)) p.sl (Eq.trans (aT 11 dc) (if_pos ⟨E.1, E.2⟩)) dY (fun g h _ => ⟨rfl, h.trans (if_pos E).symm⟩)
 refine fun _ _ _ _ _ _ bL => (yy rfl rfl (bL 9 dc) (fun Q => ?_) (fun Q => fun g h _ => ⟨trivial, h.trans (if_neg Q).symm⟩))
 have hl818 := tD Q.1
 have dZ := Q.2
 try simp only [zf] at dZ
 exact Zk (Eq.trans (bL 12 dc) (if_pos ⟨Q.1, Q.2⟩)) (fun g h _ => ⟨rfl, h.trans (if_pos Q).symm⟩)
 refine ob1 0 fun _ _ (ea : Sep _ _ _ _) bM => (yy rfl rfl (bM 9 dc) (fun R => ?_) (fun R => fun g h _ => ⟨trivial, h.trans (if_neg R).symm⟩))
 have hl830 := tD R.1
 have eb := R.2
 try simp only [zf] at eb
 have cn := ea.cells ag fe
 exact zg (k := 2) (cs := [Iv (aB.byO), Iv (aB.byS)]) pY qY rfl (Eq.trans (bM 13 dc) (if_pos ⟨R.1, R.2⟩)) (CellsAt.sub cn 11 (cs2 := [Iv (aB.byO), Iv (aB.byS)]) rfl) (fun g h _ => ⟨rfl, h.trans (if_pos R).symm⟩)
 refine fun _ _ _ _ _ _ ec => (yy rfl rfl (ec 9 dc) (fun an => ?_) (fun an => fun g h _ => ⟨trivial, h.trans (if_neg an).symm⟩))
 have hl842 := tD an.1
 have ed := an.2
 try simp only [zf] at ed
 exact mV m (fun g h _ => ⟨rfl, h.trans (if_pos an).symm⟩)
 refine fun _ _ _ _ _ _ ee => (yy rfl rfl (ee 9 dc) (fun ao => ?_) (fun ao => fun g h _ => ⟨trivial, h.trans (if_neg ao).symm⟩))
 have hl852 := tD ao.1
 have ef := ao.2
 try simp only [zf] at ef
 exact mV (Iv b) (fun g h _ => ⟨rfl, h.trans (if_pos ao).symm⟩)
 refine ob1 0 fun _ _ _ aU => (yy rfl rfl (aU 9 dc) (fun F => ?_) (fun F => fun g h _ => ⟨trivial, h.trans (if_neg F).symm⟩))
 have hl865 := tD F.1
 have eg := F.2
 try simp only [zf] at eg
 have hi867 : b.toNat < X.length := bo
 exact zq (k := 13) (i := b) nT pT (Eq.trans (aU 15 dc) (if_pos ⟨F.1, F.2⟩)) p.sl (Eq.trans (aU 16 dc) (if_pos ⟨F.1, F.2⟩)) ⟨by omega, by omega⟩ (fun g h _ => ⟨rfl, h.trans (if_pos F).symm⟩)
 refine fun _ _ _ _ _ _ bN => (yy rfl rfl (bN 9 dc) (fun S => ?_) (fun S => fun g h _ => ⟨trivial, h.trans (if_neg S).symm⟩))
 have hl877 := tD S.1
 have eh := S.2
 try simp only [zf] at eh
 exact xq (Eq.trans (bN 17 dc) (if_pos ⟨S.1, S.2⟩)) (fun g h _ => ⟨rfl, h.trans (if_pos S).symm⟩)
 refine fun _ _ _ _ _ _ bO => (yy rfl rfl (bO 9 dc) (fun T => ?_) (fun T => fun g h _ => ⟨trivial, h.trans (if_neg T).symm⟩))
 have hl888 := tD T.1
 have ei := T.2
 try simp only [zf] at ei
 exact yP (Eq.trans (bO 18 dc) (if_pos ⟨T.1, T.2⟩)) (fun g h _ => ⟨rfl, h.trans (if_pos T).symm⟩)
 refine ob1 0 fun _ _ (ej : Sep _ _ _ _) bP => (yy rfl rfl (bP 9 dc) (fun U => ?_) (fun U => fun g h _ => ⟨trivial, h.trans (if_neg U).symm⟩))
 have hl900 := tD U.1
 have ek := U.2
 try simp only [zf] at ek
 have bQ : b.toNat < X.length := bo
 obtain ⟨co, bk, hoke902⟩ := p.entD bQ
 have hsm904 : ((X.getD b.toNat default).ev.deps).length * 8 ≤ 140737488355328 := bk.small
 have cp := ej.cells co (p.foot (ne_of_lt bQ))
 exact zg (k := 2) (cs := [Iv (be.ev.origin), Iv (be.ev.seq)]) pY qY rfl (Eq.trans (bP 19 dc) (if_pos ⟨U.1, U.2⟩)) (CellsAt.sub cp 0 (cs2 := [Iv (be.ev.origin), Iv (be.ev.seq)]) rfl) (fun g h _ => ⟨rfl, h.trans (if_pos U).symm⟩)
 refine ob1 0 fun _ _ _ aV => (yy rfl rfl (aV 9 dc) (fun H => ?_) (fun H => fun g h _ => ⟨trivial, h.trans (if_neg H).symm⟩))
 have hl917 := tD H.1
 have el := H.2
 try simp only [zf] at el
 exact ZH (e := decide (aB.byO = be.ev.origin ∧ aB.byS = be.ev.seq)) (xs := #[Iv (aB.byO), Iv (aB.byS)]) (ys := #[Iv (be.ev.origin), Iv (be.ev.seq)]) WG (Eq.trans (aV 14 dc) (if_pos ⟨H.1, H.2⟩)) (Eq.trans (aV 20 dc) (if_pos ⟨H.1, H.2⟩)) (fun g h _ => ⟨rfl, h.trans (if_pos H).symm⟩)
 refine fun _ _ _ _ _ _ aW => (zC rfl rfl (aW 2 dc) (fun ae => ?_) (fun ae => fun g h _ => ⟨trivial, h.trans (if_neg ae).symm⟩))
 have hl929 := tD ae
 exact zx (b := !(aB.void)) (b' := !decide (aB.byO = be.ev.origin ∧ aB.byS = be.ev.seq)) (Eq.trans (aW 9 dc) (if_pos ae)) (fun hbp => (Eq.trans (aW 21 dc) (if_pos ⟨ae, hbp⟩))) (fun g h _ => ⟨rfl, h.trans (if_pos ae).symm⟩)
 refine fun _ _ _ _ _ _ em => (zC rfl rfl (em 24 dc) (fun aA => ?_) (fun aA => fun g h _ => ⟨trivial, h.trans (if_neg aA).symm⟩))
 have en := aA
 try simp only [zf] at en
 exact mV (Iv b) (fun g h _ => ⟨rfl, h.trans (if_pos aA).symm⟩)
 refine ob1 0 fun _ _ _ bR => (zC rfl rfl (bR 24 dc) (fun ap => ?_) (fun ap => fun g h _ => ⟨trivial, h.trans (if_neg ap).symm⟩))
 have eo := ap
 try simp only [zf] at eo
 exact zD (k := .i64) (a := b) (b := 0) (Eq.trans (bR 25 dc) (if_pos ap)) rfl (fun g h _ => ⟨rfl, h.trans (if_pos ap).symm⟩)
 refine fun _ _ _ _ _ _ bS => (zC rfl rfl (bS 24 dc) (fun aq => ?_) (fun aq => fun g h _ => ⟨trivial, h.trans (if_neg aq).symm⟩))
 have er := aq
 try simp only [zf] at er
 exact zP (v := .bool (decide (b < 0))) (Eq.trans (bS 26 dc) (if_pos aq)) (fun g h _ => ⟨rfl, h.trans (if_pos aq).symm⟩)
 refine fun _ _ _ _ _ _ es => (yy rfl rfl (es 27 dc) (fun ar => ?_) (fun ar => fun g h _ => ⟨trivial, h.trans (if_neg ar).symm⟩))
 have et := ar.1
 try simp only [zf] at et
 have hl984 := tD ar.2
 exact mV m (fun g h _ => ⟨rfl, h.trans (if_pos ar).symm⟩)
 refine fun _ _ _ _ _ _ eu => (yy rfl rfl (eu 27 dc) (fun au => ?_) (fun au => fun g h _ => ⟨trivial, h.trans (if_neg au).symm⟩))
 have ew := au.1
 try simp only [zf] at ew
 have hl994 := tD au.2
 exact mV (Iw k) (fun g h _ => ⟨rfl, h.trans (if_pos au).symm⟩)
 refine ob1 0 fun _ _ _ aX => (yy rfl rfl (aX 27 dc) (fun A => ?_) (fun A => fun g h _ => ⟨trivial, h.trans (if_neg A).symm⟩))
 have cq := A.1
 try simp only [zf] at cq
 have hl1007 := tD A.2
 have cr : k < X.length := bo
 exact ze (k := 13) (i := k) nT pT (Eq.trans (aX 28 dc) (if_pos ⟨A.1, A.2⟩)) p.sl (Eq.trans (aX 29 dc) (if_pos ⟨A.1, A.2⟩)) cr (fun g h _ => ⟨rfl, h.trans (if_pos A).symm⟩)
 refine fun _ _ _ _ _ _ bc => (yy rfl rfl (bc 27 dc) (fun I => ?_) (fun I => fun g h _ => ⟨trivial, h.trans (if_neg I).symm⟩))
 have ct := I.1
 try simp only [zf] at ct
 have hl1019 := tD I.2
 exact Zk (Eq.trans (bc 30 dc) (if_pos ⟨I.1, I.2⟩)) (fun g h _ => ⟨rfl, h.trans (if_pos I).symm⟩)
 refine ob1 0 fun _ _ (cu : Sep _ _ _ _) bd => (yy rfl rfl (bd 27 dc) (fun J => ?_) (fun J => fun g h _ => ⟨trivial, h.trans (if_neg J).symm⟩))
 have cv := J.1
 try simp only [zf] at cv
 have hl1031 := tD J.2
 have bX := cu.cells ag fe
 exact zg (k := 2) (cs := [Iv (aB.byO), Iv (aB.byS)]) pY qY rfl (Eq.trans (bd 31 dc) (if_pos ⟨J.1, J.2⟩)) (CellsAt.sub bX 11 (cs2 := [Iv (aB.byO), Iv (aB.byS)]) rfl) (fun g h _ => ⟨rfl, h.trans (if_pos J).symm⟩)
 refine fun _ _ _ _ _ _ cw => (yy rfl rfl (cw 27 dc) (fun Y => ?_) (fun Y => fun g h _ => ⟨trivial, h.trans (if_neg Y).symm⟩))
 have cx := Y.1
 try simp only [zf] at cx
 have hl1043 := tD Y.2
 exact zQ (parts' := []) (v := .agg #[Iv 0, Iv 0]) rfl yqf (fun g h _ => ⟨rfl, h.trans (if_pos Y).symm⟩)
 refine ob1 0 fun _ _ _ aE => (yy rfl rfl (aE 27 dc) (fun B => ?_) (fun B => fun g h _ => ⟨trivial, h.trans (if_neg B).symm⟩))
 have cy := B.1
 try simp only [zf] at cy
 have hl1056 := tD B.2
 exact ZH (e := decide (aB.byO = 0 ∧ aB.byS = 0)) (xs := #[Iv (aB.byO), Iv (aB.byS)]) (ys := #[Iv 0, Iv 0]) WG (Eq.trans (aE 32 dc) (if_pos ⟨B.1, B.2⟩)) (Eq.trans (aE 33 dc) (if_pos ⟨B.1, B.2⟩)) (fun g h _ => ⟨rfl, h.trans (if_pos B).symm⟩)
 refine fun _ _ _ _ _ _ aF => (zC rfl rfl (aF 24 dc) (fun O => ?_) (fun O => fun g h _ => ⟨trivial, h.trans (if_neg O).symm⟩))
 have cz := O
 try simp only [zf] at cz
 exact zo (b := decide (b < 0)) (b' := !decide (aB.byO = 0 ∧ aB.byS = 0)) (Eq.trans (aF 27 dc) (if_pos O)) (fun hbp => (Eq.trans (aF 34 dc) (if_pos ⟨O, hbp⟩))) (fun g h _ => ⟨rfl, h.trans (if_pos O).symm⟩)
 intro vals w1076 cA cB
 have cC : Sep _ _ _ _ := cA
 have ex := cB 36 dc
 refine zZ (kv := [(2, y), (3, Ix b2 0), (8, m), (9, Iw k), (10, Ix N 0), (11, Iv b), (162, .bool (((decide (0 ≤ b)) && ((!((X.getD k default).void)) || (!decide ((X.getD k default).byO = (X.getD b.toNat default).ev.origin ∧ (X.getD k default).byS = (X.getD b.toNat default).ev.seq)))) || ((decide (b < 0)) && (!decide ((X.getD k default).byO = 0 ∧ (X.getD k default).byS = 0)))))]) ⟨rfl, rfl, rfl, rfl, rfl, rfl, (by exact ex), trivial⟩ (fun ρw1076 => (zb ?_))
 cases aG : ((decide (0 ≤ b)) && ((!((X.getD k default).void)) || (!decide ((X.getD k default).byO = (X.getD b.toNat default).ev.origin ∧ (X.getD k default).byS = (X.getD b.toNat default).ev.seq)))) || ((decide (b < 0)) && (!decide ((X.getD k default).byO = 0 ∧ (X.getD k default).byS = 0)))
 try simp only [zf] at aG
 refine zi rfl (zk (R0 fun _ => st (mV (Iw k) ?_)))
 have cD : InR ((k + 1 : Nat) : Int) := bo
 refine st (zH (r := ((k + 1 : Nat) : Int)) (k := .i64) (a := ((k : Nat) : Int)) (b := 1) rfl rfl (by rw [show (((k : Nat) : Int) + 1 : Int) = ((k + 1 : Nat) : Int) from bo]; exact zz cD) (st (aS (Iw (k + 1)) (zb ?_))))
 exact ⟨_, by omega, k + 1, _, rfl, sSf, by omega, (cC.s2_b)⟩
 try simp only [zf] at aG
 exfalso
 have h9 := KE (d := d) (l := s) (i := k) (by omega) (by rw [← hX]; exact eC)
 rw [← hX] at h9
 rcases aG with ⟨h1, h2⟩ | ⟨h1, h2⟩
 have h3 := h9.1 h1; rcases h2 with h2 | h2; · rw [h3.1] at h2; cases h2
 exact h2 ⟨h3.2.1, h3.2.2⟩
 exact h2 (h9.2 h1)
 have ab := zM ab
 exfalso
 have h9 := YR (d := d) (l := s) (i := k) om
 rw [← hX] at h9
 rw [h9] at ab
 simp at ab
 try simp only [zf] at bY
 refine zj rfl (za (R0 fun _ => st (cL vR (xj  hKN ez) ?_)))
 rintro _ w1084 ⟨rfl, cE⟩
 refine st (aS (.bool true) (zb (zm (zL pA (show _ = (.bool true : Value) from rfl) ?_))))
 refine ⟨rfl, (cE.s1_)⟩

theorem Yu (d : Dcl) (l : List Ev) (n : Nat) : zY d (l.take n) = (zY d l).take n := by
  induction l using xI with
  | h0 => rw [List.take_nil, show zY d [] = [] from rfl, List.take_nil]
  | h1 l e ih =>
    rcases Nat.lt_or_ge l.length n with h | h
    · rw [List.take_of_length_le (by rw [List.length_append, List.length_singleton]; omega), List.take_of_length_le (by rw [yq, List.length_append, List.length_singleton]; omega)]
    · rw [List.take_append_of_le_length h, ih, xe, List.take_append_of_le_length (by rw [yq]; exact h)]
def qE (ty ag : Int) (e : Ev) : Bool := decide (e.typ = ty ∧ e.agg = ag)
def qX (ty ag : Int) (x : Ent) : Bool := qE ty ag x.ev
theorem xJ {α : Type} (p : α → Bool) (l : List α) (x : α) : (l ++ [x]).filter p = if p x then l.filter p ++ [x] else l.filter p := by
  rw [List.filter_append, List.filter_cons]; split <;> simp
theorem Wo (ty ag f : Int) (L : List Ent) : yf (ty, ag, f) (L.filter (qX ty ag)) = yf (ty, ag, f) L := by
  unfold yf
  rw [List.filter_filter]
  congr 1
  refine List.filter_congr (fun x _ => ?_)
  unfold on3 qX qE
  cases x.void <;> simp <;> omega
theorem Kb {ty ag : Int} {x : Ent} (h : onL (ty, ag) x = true) : qX ty ag x = true := by
  unfold onL at h; unfold qX qE; simp at h ⊢; exact h.2
theorem Zd (d : Dcl) (ty ag : Int) (L : List Ent) : zT d (ty, ag) (L.filter (qX ty ag)) = zT d (ty, ag) L := by
  induction L using xI with
  | h0 => rfl
  | h1 L x ih =>
    rw [xJ, yR]
    by_cases hq : qX ty ag x = true
    · rw [if_pos hq, yR, ih]
    · rw [if_neg hq, ih, if_neg (fun h => hq (Kb h))]
theorem Zy (ty ag : Int) (L : List Ent) : yd (ty, ag) (L.filter (qX ty ag)) = yd (ty, ag) L := by
  unfold yd
  rw [List.filter_filter]
  congr 1
  refine List.filter_congr (fun x _ => ?_)
  cases h : onL (ty, ag) x
  · rfl
  · rw [Kb h]; rfl
theorem YL (d : Dcl) (ty ag : Int) (l : List Ev) : zY d (l.filter (qE ty ag)) = (zY d l).filter (qX ty ag) := by
  induction l using xI with
  | h0 => rfl
  | h1 l e ih =>
    rw [xJ, xe, xJ]
    by_cases hq : qE ty ag e = true
    · have hq2 : qX ty ag (ya d (zY d l) e) = true := hq
      rw [if_pos hq, if_pos hq2, xe, ih]
      congr 2
      unfold qE at hq
      obtain ⟨rfl, rfl⟩ := of_decide_eq_true hq
      unfold ya zJ
      rw [Wo, Zd]
    · have hq2 : ¬ qX ty ag (ya d (zY d l) e) = true := hq
      rw [if_neg hq, if_neg hq2, ih]
theorem VF (d : Dcl) (ty ag : Int) (L : List Ent) : stL d (ty, ag) (L.filter (qX ty ag)) = stL d (ty, ag) L := by unfold stL; rw [Zy, Zd]
theorem Vs (d : Dcl) (ty ag : Int) (L : List Ent) : ye d (ty, ag) (L.filter (qX ty ag)) = ye d (ty, ag) L := by unfold ye; rw [Zy, VF]
theorem Xt (d : Dcl) (ty ag : Int) (L : List Ent) : zh d (L.filter (qX ty ag)) (ty, ag) = zh d L (ty, ag) := by unfold zh; rw [Zy, Zd]
theorem QN {α : Type} [Inhabited α] {l : List α} {k : Nat} {q : α → Bool} (hk : k < l.length) (h : q (l.getD k default) = true) : (l.take (k + 1)).filter q = (l.take k).filter q ++ [l.getD k default] := by
  have e : l.take (k + 1) = l.take k ++ [l.getD k default] := by rw [List.take_add_one, List.getElem?_eq_getElem hk, List.getD_eq_getElem?_getD, List.getElem?_eq_getElem hk]; rfl
  rw [e, xJ, if_pos h]
theorem Qa {α : Type} [Inhabited α] {l : List α} {k : Nat} {q : α → Bool} (hk : k < l.length) (h : q (l.getD k default) = false) : (l.take (k + 1)).filter q = (l.take k).filter q := by
  have e : l.take (k + 1) = l.take k ++ [l.getD k default] := by rw [List.take_add_one, List.getElem?_eq_getElem hk, List.getD_eq_getElem?_getD, List.getElem?_eq_getElem hk]; rfl
  rw [e, xJ, h]; rfl
theorem QY {d : Dcl} {ty ag : Int} {l : List Ev} {k : Nat} (h : l.length ≤ k) : zY d ((l.take k).filter (qE ty ag)) = (zY d l).filter (qX ty ag) := by rw [List.take_of_length_le h, YL]
theorem QW {d : Dcl} {l : List Ev} {k : Nat} (h : k < l.length) : ((zY d l).getD k default).ev = l.getD k default := by
  induction l using xI with
  | h0 => cases h
  | h1 l e ih =>
    rw [xe]
    rcases Nat.lt_or_ge k l.length with h1 | h1
    · rw [List.getD_eq_getElem?_getD, List.getD_eq_getElem?_getD, List.getElem?_append_left (by rw [yq]; exact h1), List.getElem?_append_left h1, ← List.getD_eq_getElem?_getD, ← List.getD_eq_getElem?_getD, ih h1]
    · have e1 : k = l.length := by rw [List.length_append, List.length_singleton] at h; omega
      subst e1
      rw [List.getD_eq_getElem?_getD, List.getD_eq_getElem?_getD, List.getElem?_append_right (by rw [yq]; exact Nat.le_refl _), List.getElem?_append_right (Nat.le_refl _), yq, Nat.sub_self]; rfl
theorem QF {d : Dcl} {ty ag : Int} {l : List Ev} {k : Nat} {b : Bool} (h : k < l.length) (hq : qE ty ag (l.getD k default) = b) : qX ty ag ((zY d l).getD k default) = b := by unfold qX; rw [QW h]; exact hq
set_option maxHeartbeats 8000000 in
theorem WC {G : Nat → Prop} {W w : World} {Rs : List HP} {d : Dcl} {dd0 : Value} (hdd0 : RdS W G dd0 d.types) {dd1 : Value} (hdd1 : RdS W G dd1 d.projs) (od : d.Ok) {n : Int} (hn : InR n) {vl : Value} {l : List Ev} (hl : RdS W G vl l) {no : Int} (hno : InR no) {ty : Int} (hty : InR ty) {ag : Int} (hag : InR ag) (hKN : RdS W G (.slice (some ⟨0, 0, none⟩) 6 6) kindsL) (hS0 : Sep G W Rs w) : Ret Tryd.prog 7 [.agg (d.cells dd0 dd1).toArray, .int .i64 (n), vl, .int .i64 (no), .int .i64 (ty), .int .i64 (ag)] w (fun r w' => r = (.bool true : Value) ∧ Sep G W Rs w') := by
 have hdd0s : _ * 24 ≤ _ := hdd0.small
 have hdd1s : _ * 40 ≤ _ := hdd1.small
 have hls : _ * 96 ≤ _ := hl.small
 have hKNs : _ * 8 ≤ _ := hKN.small
 refine zl (args := [.agg (d.cells dd0 dd1).toArray, Iv n, vl, Iv no, Iv ty, Iv ag]) Tryd.func7 rfl rfl ?_
 refine za (R0 fun _ => st (zR (v := .agg (d.cells dd0 dd1).toArray) rfl ?_))
 intro w3 b2 dJ
 let dI := Blk b2 (d.cells dd0 dd1).toArray 25
 have dj := hS0.new dJ
 refine st (aS (.bool false) (zb (za (za (R0 fun _ => st (zg (k := 2) tT uT rfl rfl (CellsAt.all (dj.b0)) (st (cL mA (YV (d := d) hdd0 hdd1 od dj) ?_))))))))
 rintro _ w7 ⟨b5, rfl, dK, dk⟩
 refine st (yc (a := b5) rfl (zb ?_))
 cases aX : !b5
 try simp only [zf] at aX
 have hdo := dK aX
 refine zi rfl (zk (za (R0 fun _ => st (mV (Iv n) ?_))))
 refine st (cL nY (Xj (x := n) (n := 64) hn yqj dk) ?_)
 rintro _ w12 ⟨K, rfl, hq11, dr⟩
 have aY : InR ((1 + K : Nat) : Int) := bo
 refine st (zH (r := ((1 + K : Nat) : Int)) (k := .i64) (a := 1) (b := ((K : Nat) : Int)) rfl rfl (by rw [show (1 + ((K : Nat) : Int) : Int) = ((1 + K : Nat) : Int) from bo]; exact zz aY) (st (mV vl (st (cL nA (Yk (n := ((1 + K : Nat) : Int)) (l := l) (vl := vl) aY hl dr) ?_)))))
 rintro m dl ⟨_, e, rfl, h6017, hft18, aZ⟩
 have ds := aZ.r0
 have hr21s : _ * 96 ≤ _ := ds.2
 refine st (aS m (zb (za ?_)))
 obtain ⟨dm, dt, F, du, dv⟩ := aZ.lend
 have q := RowE.rdB dt F
 have hrd28s : _ * 96 ≤ _ := q.small
 refine R0 fun _ => st (mV (Iv no) (st (mV m (st (zA (n := e.length) rT rfl q.sl ?_)))))
 have dw : InR ((e.length + 1 : Nat) : Int) := bo
 refine st (zH (r := ((e.length + 1 : Nat) : Int)) (k := .i64) (a := ((e.length : Nat) : Int)) (b := 1) rfl rfl (by rw [show (((e.length : Nat) : Int) + 1 : Int) = ((e.length + 1 : Nat) : Int) from bo]; exact zz dw) ?_)
 refine st (cL nY (Xj (x := no) (n := e.length + 1) hno yqj du) ?_)
 rintro _ w32 ⟨g, rfl, hq31, ba⟩
 refine st (aS (Iw g) (zb (za (R0 fun _ => st (zg (k := 2) tT uT rfl rfl (CellsAt.all (ba.b0)) (st (mV m ?_)))))))
 refine st (cL sR (YH (d := d) (l := e) (vl := m) (RdS.base hdd0 F) (RdS.base hdd1 F) od q (RdS.base hKN F) ba (hdo) ((by first | omega | (rw [List.length_take]; omega) | exact Nat.le_trans (List.length_filter_le _ _) (by rw [List.length_take]; omega)))) ?_)
 rintro _ w35 ⟨E, rfl, dx⟩
 refine st (aS (Ix E 0) (zb (za ?_)))
 refine WD4 ((fun TT ad => WF [fun vals Y => Sep dm dl (ad :: TT) Y, fun vals Y => ∃ (p : Nat), (vals 4 = (Ix p 0 : Value)) ∧ Sep dm dl ((ViewO p d (zY d (e.take g)) (zY d (e.take g))) :: ad :: TT) Y]) (dI :: Rs) (ViewO E d (zY d e) (zY d e))) (AF [Vl 0 (.agg (d.cells dd0 dd1).toArray), Vl 1 (m), Vl 2 (Iw g), Vl 3 ((Yi 10 m 0 g)), fun _ => True, fun vals => ∀ (p : Nat), vals 4 = (Ix p 0 : Value) → vals 5 = (Ix p 0 : Value)]) [[], [], [], [1, 2], (rg 4), (rg 5)] [4] [(0, 0), (0, 0), (0, 0), (0, 0), (0, 0), (1, 1)] dx ⟨ob1 0 fun _ _ (dy : Sep _ _ _ _) _ => obl rfl (zg (k := 2) tT uT rfl rfl (CellsAt.all (dy.b1)) dR), fun _ _ _ _ _ _ _ => obl rfl (mV m dR), fun _ _ _ _ _ _ _ => obl rfl (mV (Iw g) dR), ob1 0 fun _ _ _ ax => obl rfl (Yf (j := g) (k := 10) (n := e.length) rT oT (ax 1 dc) q.sl (ax 2 dc) bo dR), ?_, ?_, trivial⟩ ?_ (hlocA := yT ⟨dA, dA, dA, dA, dT, fun vals I L h => fun p ay => (L 5 (.inl rfl)).trans (h p ((L 4 (.inr dc)).symm.trans ay)), trivial⟩)
 refine ob1 0 fun vals _ (dz : Sep _ _ _ _) bb => (obl rfl ?_)
 have dp := RdS.sub_hi (j := g) q (by first | omega | (simp only [List.length_drop, List.length_take]; omega))
 have h74s : _ * 96 ≤ _ := dp.small
 refine (zV (f := 38) (vals := [.agg (d.cells dd0 dd1).toArray, (Yi 10 m 0 g)]) (cap := []) rfl (yH ⟨(bb 0 (by decide)), (bb 3 (by decide)), trivial⟩) sR (YH (d := d) (l := e.take g) (vl := (Yi 10 m 0 g)) (RdS.base hdd0 F) (RdS.base hdd1 F) od dp (RdS.base hKN F) dz (hdo) ((by first | omega | (rw [List.length_take]; omega) | exact Nat.le_trans (List.length_filter_le _ _) (by rw [List.length_take]; omega)))) ?_)
 rintro _ w76 ⟨p, rfl, dB⟩
 exact fun I L am => ⟨(Exists.intro p (And.intro L dB)), trivial⟩
 refine ob1 1 fun _ _ bv _ => ?_
 obtain ⟨p, ae, hS120⟩ := bv
 refine obl rfl (ym (v := Ix p 0) ae (fun I L am => ⟨rfl, ?_⟩))
 intro b75q ay
 rw [am 4 (by decide)] at ay; cases ae.symm.trans ay
 exact L
 intro vals w121 bw bx
 obtain ⟨p, ae, bz⟩ := bw
 have dC : vals 5 = (Ix p 0 : Value) := bx 5 dc p ae
 refine zZ (kv := [(0, .agg (d.cells dd0 dd1).toArray), (1, Iv n), (2, m), (3, Iw g), (4, Iv ty), (5, Iv ag), (6, Ix b2 0), (12, .bool false), (24, .agg (d.cells dd0 dd1).toArray), (25, .bool b5), (26, .bool false), (28, Iv n), (29, Iw K), (30, Iw (1 + K)), (31, vl), (32, m), (33, Iv no), (34, m), (35, Iw e.length), (36, Iw (e.length + 1)), (37, Iw g), (38, .agg (d.cells dd0 dd1).toArray), (39, m), (40, Ix E 0), (13, Ix E 0), (14, Ix p 0)]) ⟨rfl, rfl, rfl, rfl, rfl, rfl, rfl, rfl, rfl, rfl, rfl, rfl, rfl, rfl, rfl, rfl, rfl, rfl, rfl, rfl, rfl, rfl, rfl, rfl, rfl, (by exact dC), trivial⟩ (fun ρw121 => (zb (za (za (zw kr (st (mV (Ix E 0) (st (xc (b := E) (o := 0) tR rfl (st (mV (.bool false) (sty rfl rfl (mV (Ix p 0) ?_)))))))))))))
 refine sty rfl rfl (xc (b := p) (o := 0) tR rfl (st (zO (v := .bool false) rfl rfl (zb (zi rfl (zk (za (R0 fun _ => st (mV (Ix E 0) (st (cL uR (yW  (bz.mv1)) ?_)))))))))))
 rintro u s ⟨_, rfl, az⟩
 have bA := az.r1
 have hr130s : _ * 120 ≤ _ := bA.2
 refine st (aS u (zb (za (za ?_))))
 have af := az.mv1
 have dq : ((zY d e)).length = e.length := yq _ _
 obtain ⟨X, hX⟩ : ∃ z, z = (zY d e) := ⟨_, rfl⟩
 rw [← hX] at af dq
 have bB := af.r0
 have hr132s : _ * 120 ≤ _ := bB.2
 obtain ⟨C, bC, t, bD, bE⟩ := af.lend
 have D := RowE.rd bC
 have hrd139s : _ * 120 ≤ _ := D.small
 refine WD4 ((fun TT ad bc => WF [fun vals Y => Sep C s (ad :: bc :: TT) Y, fun vals Y => ∃ (A : Value), (vals 7 = (A : Value)) ∧ Sep C s (bc :: (RwN A (zY d (e.take g))) :: ad :: TT) Y, fun vals Y => ∃ (A : Value), (vals 7 = (A : Value)) ∧ (vals 11 = (.bool (decide ((zY d (e.take g)) = (X.take g))) : Value)) ∧ Sep C s ((RwN A (zY d (e.take g))) :: bc :: ad :: TT) Y]) (dI :: Rs) (ViewO E d X X) (ViewO p d (zY d (e.take g)) (zY d (e.take g)))) (AF [Vl 0 (u), Vl 1 (Iw X.length), Vl 2 (m), Vl 3 (Iw e.length), Vl 4 (.bool false), Vl 5 (.bool false), Vl 6 (Ix p 0), fun _ => True, Vl 8 (u), Vl 9 (Iw g), Vl 10 ((Yi 13 u 0 g)), fun _ => True, Vl 12 (.bool false), Vl 13 (.bool false)]) [[], [0], [], [2], (rg 4), (rg 5), (rg 6), (rg 7), (rg 6), (rg 6), [0, 1, 2, 3, 4, 5, 8, 9], (rg 11), (rg 12), (rg 13)] [7, 11] [(0, 0), (0, 0), (0, 0), (0, 0), (0, 0), (0, 0), (0, 0), (0, 0), (0, 1), (0, 1), (0, 1), (1, 1), (2, 2), (2, 2)] bD ⟨fun _ _ _ _ _ _ _ => obl rfl (mV u dR), ob1 0 fun _ _ _ bF => obl rfl (zA (n := X.length) nT (bF 0 dc) D.sl dR), fun _ _ _ _ _ _ _ => obl rfl (mV m dR), ob1 0 fun _ _ _ bG => obl rfl (zA (n := e.length) rT (bG 2 dc) (RdS.base q t).sl dR), ?_, fun _ _ _ _ _ _ bH => obl rfl (zP (v := .bool false) (bH 4 dc) dR), ?_, ?_, ?_, ?_, ?_, ?_, ?_, fun _ _ _ _ _ _ aA => obl rfl (zO (v := .bool false) (aA 5 dc) (aA 12 dc) dR), trivial⟩ ?_
 refine ob1 0 fun _ _ _ aB => (obl rfl ?_)
 have bI : (!decide (((X.length : Nat) : Int) = ((e.length : Nat) : Int))) = false := (by rw [dq]; simp)
 exact yh (k := .i64) (a := ((X.length : Nat) : Int)) (b := ((e.length : Nat) : Int)) (aB 1 dc) (aB 3 dc) (fun I L _ => ⟨rfl, L.trans (congrArg Value.bool bI)⟩)
 refine fun _ _ _ _ _ _ bJ => (zC rfl rfl (bJ 5 dc) (fun _ => ?_) yqe)
 exact mV (Ix p 0) dR
 refine ob1 0 fun vals _ (bK : Sep _ _ _ _) aC => (zC rfl rfl (aC 5 dc) (fun _ => ?_) yqe)
 refine (zV (f := 36) (vals := [Ix p 0]) (cap := []) rfl (yH ⟨(aC 6 dc), trivial⟩) uR (yW  (bK.mv1)) ?_)
 rintro A w203 ⟨_, rfl, aD⟩
 have bL := aD.r1
 have hr205s : _ * 120 ≤ _ := bL.2
 exact fun I L am => ⟨(Exists.intro A (And.intro L aD)), trivial⟩
 refine fun _ _ _ _ _ _ bM => (zC rfl rfl (bM 5 dc) (fun _ => ?_) yqe)
 exact mV u dR
 refine fun _ _ _ _ _ _ bN => (zC rfl rfl (bN 5 dc) (fun _ => ?_) yqe)
 exact mV (Iw g) dR
 refine fun ah _ _ dD dE aE J => ?_
 have hkk : ah = 0 ∨ ah = 1 := by have h1 : 0 ≤ ah := dD; have h2 : ah ≤ 1 := dE; omega
 rcases hkk with rfl | rfl
 have hS342 : Sep _ _ _ _ := aE
 refine zC rfl rfl (J 5 dc) (fun _ => ?_) yqe
 exact Yf (j := g) (k := 13) (n := X.length) nT pT (J 8 dc) D.sl (J 9 dc) bo dR
 obtain ⟨A, M, hS346⟩ := aE
 refine zC rfl rfl (J 5 dc) (fun _ => ?_) yqe
 exact Yf (j := g) (k := 13) (n := X.length) nT pT (J 8 dc) D.sl (J 9 dc) bo dR
 refine ob1 1 fun vals _ bO aF => ?_
 obtain ⟨A, M, bP⟩ := bO
 refine zC rfl rfl (aF 5 dc) (fun _ => ?_) yqe
 obtain ⟨G241, bQ, bR, bS, bT⟩ := (bP.mv1).lend
 have an := RowE.rd bQ
 have hrd247s : _ * 120 ≤ _ := an.small
 have bd := RdS.sub_hi (j := g) (RdS.base D bR) (by first | omega | (simp only [List.length_drop, List.length_take]; omega))
 have h248s : _ * 120 ≤ _ := bd.small
 refine (zV (f := 31) (vals := [A, (Yi 13 u 0 g)]) (cap := []) rfl (yH ⟨M, (aF 10 dc), trivial⟩) qA (xd (a := (zY d (e.take g))) (va := A) (b := X.take g) (vb := (Yi 13 u 0 g)) an bd bS) ?_)
 rintro _ w249 ⟨rfl, bU⟩
 have bV := bT _ _ bU
 exact fun I L am => ⟨(Exists.intro A (And.intro ((am 7 dc).trans M) (And.intro L bV))), trivial⟩
 refine ob1 2 fun _ _ bW bX => ?_
 obtain ⟨A, M, aG, hS356⟩ := bW
 refine zC rfl rfl (bX 5 dc) (fun _ => ?_) yqe
 have bY : (!(decide ((zY d (e.take g)) = (X.take g)))) = false := (by rw [hX, Yu]; simp)
 exact yc (a := decide ((zY d (e.take g)) = (X.take g))) aG (fun I L _ => ⟨rfl, L.trans (congrArg Value.bool bY)⟩)
 intro vals w367 bZ ca
 obtain ⟨A, M, aG, cb⟩ := bZ
 have dF := ca 13 dc
 refine zZ (kv := [(0, .agg (d.cells dd0 dd1).toArray), (1, Iv n), (2, m), (3, Iw g), (4, Iv ty), (5, Iv ag), (6, Ix b2 0), (12, .bool false), (24, .agg (d.cells dd0 dd1).toArray), (25, .bool b5), (26, .bool false), (28, Iv n), (29, Iw K), (30, Iw (1 + K)), (31, vl), (32, m), (33, Iv no), (34, m), (35, Iw e.length), (36, Iw (e.length + 1)), (37, Iw g), (38, .agg (d.cells dd0 dd1).toArray), (39, m), (40, Ix E 0), (13, Ix E 0), (14, Ix p 0), (46, Ix E 0), (47, .bool false), (48, .bool false), (49, Ix p 0), (50, .bool false), (51, .bool false), (52, Ix E 0), (53, u), (15, u), (67, .bool false)]) ⟨rfl, rfl, rfl, rfl, rfl, rfl, rfl, rfl, rfl, rfl, rfl, rfl, rfl, rfl, rfl, rfl, rfl, rfl, rfl, rfl, rfl, rfl, rfl, rfl, rfl, rfl, rfl, rfl, rfl, rfl, rfl, rfl, rfl, rfl, rfl, (by exact dF), trivial⟩ (fun ρw367 => ?_)
 refine zb (zi rfl (zk (za (R0 fun _ => st (aS (Iz) (zb (za (R0 fun _ => st (aS (Iz) (zb (za (za (R0 fun _ => st (aS (Iv 0) (zb (zn ?_))))))))))))))))
 have cc : Sep _ _ ((RowE (α := Ev) (shr C s) 59 (Iz) ([] : List Ev)) :: _) _ := cb.rowNil (shr C s) 59
 have cd : Sep _ _ ((RowE (α := Ent) (shr C s) 62 (Iz) ([] : List Ent)) :: _) _ := cc.rowNil (shr C s) 62
 refine zX (fun mq σ Y => ∃ (k : Nat) (vo : Value) (vw : Value) (ρ : Env), mq = e.length - k ∧ σ = yb ρ [(2, m), (3, Iw g), (4, Iv ty), (5, Iv ag), (6, Ix b2 0), (13, Ix E 0), (14, Ix p 0), (15, u), (18, Iw k), (16, vo), (17, vw)] ∧ (k ≤ e.length) ∧ Sep C s ((RowE (α := Ent) (shr C s) 62 vw ((X.take k).filter (qX ty ag))) :: (RowE (α := Ev) (shr C s) 59 vo ((e.take k).filter (qE ty ag))) :: (RwN A (zY d (e.take g))) :: (ViewO p d (zY d (e.take g)) (zY d (e.take g))) :: (ViewO E d X X) :: (Blk b2 (d.cells dd0 dd1).toArray 25) :: Rs) Y) ⟨0, (Iz), (Iz), _, rfl, sSf, Nat.zero_le _, cd⟩ ?_
 rintro m375 σ376 w374 ⟨k, vo, vw, ρl1, rfl, rfl, hkk, B⟩
 have ce := B.r0
 have hr378s : _ * 120 ≤ _ := ce.2
 have cf := B.r1
 have hr379s : _ * 96 ≤ _ := cf.2
 refine za (za (R0 fun _ => st (mV (Iw k) (st (mV m (st (zA (n := e.length) rT rfl (RdS.base q t).sl (st (zD (k := .i64) (a := ((k : Nat) : Int)) (b := ((e.length : Nat) : Int)) rfl rfl (zb ?_))))))))))
 cases Q : decide (((k : Nat) : Int) < ((e.length : Nat) : Int))
 have Q := fD Q
 refine zi rfl (zU (zI (za (R0 fun _ => st (zg (k := 2) tT uT rfl rfl (CellsAt.all (B.b5)) (st (mV vo ?_)))))))
 obtain ⟨G382, cg, R, ch, ci⟩ := (B.mv1).lend
 have ao := RowE.rdB cg R
 have hrd388s : _ * 96 ≤ _ := ao.small
 refine st (cL sR (YH (d := d) (l := ((e.take k).filter (qE ty ag))) (vl := vo) (RdS.base (RdS.base (RdS.base hdd0 F) t) R) (RdS.base (RdS.base (RdS.base hdd1 F) t) R) od ao (RdS.base (RdS.base (RdS.base hKN F) t) R) ch (hdo) ((by first | omega | (rw [List.length_take]; omega) | exact Nat.le_trans (List.length_filter_le _ _) (by rw [List.length_take]; omega)))) ?_)
 rintro _ w390 ⟨N, rfl, cj⟩
 have ck := ci _ _ cj
 refine st (aS (Ix N 0) (zb (za (za (zw kr (st (mV (Ix N 0) (st (xc (b := N) (o := 0) tR rfl (st (mV (.bool false) (sty rfl rfl (mV (Ix N 0) (sty rfl rfl (cL uR (yW  (ck.mv1)) ?_)))))))))))))))
 rintro dG aw ⟨_, rfl, aH⟩
 have cl := aH.r1
 have hr397s : _ * 120 ≤ _ := cl.2
 refine sty rfl rfl (mV vw ?_)
 obtain ⟨be, cm, cn, co, cp⟩ := (aH.mv1).lend
 have ap := RowE.rd cm
 have hrd405s : _ * 120 ≤ _ := ap.small
 have cq : Sep be aw ((RowE (α := Ent) (shr be aw) 62 vw ((X.take k).filter (qX ty ag))) :: (ViewO N d (zY d ((e.take k).filter (qE ty ag))) (zY d ((e.take k).filter (qE ty ag)))) :: (RowE (α := Ev) (shr C s) 59 vo ((e.take k).filter (qE ty ag))) :: (RwN A (zY d (e.take g))) :: (ViewO p d (zY d (e.take g)) (zY d (e.take g))) :: (ViewO E d X X) :: dI :: Rs) aw := (co.mv2).rebase (i := 0) rfl cn
 obtain ⟨G407, cr, aI, cs, ct⟩ := cq.lend
 have aq := RowE.rdB cr aI
 have hrd414s : _ * 120 ≤ _ := aq.small
 refine sty rfl rfl (cL qA (xd (a := (zY d ((e.take k).filter (qE ty ag)))) (va := dG) (b := ((X.take k).filter (qX ty ag))) (vb := vw) (RdS.base ap aI) aq cs) ?_)
 rintro _ w415 ⟨rfl, cu⟩
 have cv := ct _ _ cu
 have cw := cp _ _ cv
 have bf : (decide ((zY d ((e.take k).filter (qE ty ag))) = ((X.take k).filter (qX ty ag)))) = true := (decide_eq_true (by rw [YL, Yu, hX]))
 rw [bf]
 refine sty rfl rfl (yc (a := true) rfl (st (zO (v := .bool false) rfl rfl (zb (zi rfl (zk (za (R0 fun _ => st (mV (Ix N 0) (st (mV (Iv ty) (st (mV (Iv ag) (st (cL rA (xw (ty := ty) (no := ag) hty hag ((cw.s8_acdefgh).mv1)) ?_)))))))))))))))
 rintro _ w423 ⟨O, rfl, aJ⟩
 let av := (ye d (ty, ag) (zY d ((e.take k).filter (qE ty ag)))).cells O
 have aK := aJ.r1
 have hr425s : _ * 32 ≤ _ := aK.2
 refine st (mV (.tuple #[.agg av.toArray, .bool ((zh d (zY d ((e.take k).filter (qE ty ag))) (ty, ag)).isSome)]) (st (zt (vs := [.agg av.toArray, .bool ((zh d (zY d ((e.take k).filter (qE ty ag))) (ty, ag)).isSome)]) (i := 0) (v := .agg av.toArray) rfl rfl (st (zt (vs := [.agg av.toArray, .bool ((zh d (zY d ((e.take k).filter (qE ty ag))) (ty, ag)).isSome)]) (i := 1) (v := .bool ((zh d (zY d ((e.take k).filter (qE ty ag))) (ty, ag)).isSome)) rfl rfl (st (zr sA ?_)))))))
 intro w428 b427 cx
 have aL := aJ.new cx
 refine stn (zp (v := .agg av.toArray) (c' := av.toArray) wR rfl rfl (aL.b0) (zW ⟨rfl, aK.1.one, trivial⟩) yqc rfl ?_)
 intro w430 cy
 refine st (aS (.bool ((zh d (zY d ((e.take k).filter (qE ty ag))) (ty, ag)).isSome)) (zb (za (R0 fun _ => st (mV (Ix E 0) (st (mV (Iv ty) (st (mV (Iv ag) (st (cL rA (xw (ty := ty) (no := ag) hty hag ((aL.pt0 cy).mv7)) ?_)))))))))))
 rintro _ w435 ⟨P, rfl, aM⟩
 let bu := (ye d (ty, ag) X).cells P
 have aN := aM.r1
 have hr437s : _ * 32 ≤ _ := aN.2
 refine st (mV (.tuple #[.agg bu.toArray, .bool ((zh d X (ty, ag)).isSome)]) (st (zt (vs := [.agg bu.toArray, .bool ((zh d X (ty, ag)).isSome)]) (i := 0) (v := .agg bu.toArray) rfl rfl (st (zt (vs := [.agg bu.toArray, .bool ((zh d X (ty, ag)).isSome)]) (i := 1) (v := .bool ((zh d X (ty, ag)).isSome)) rfl rfl (st (zr sA ?_)))))))
 intro w440 b439 cz
 have aO := aM.new cz
 refine stn (zp (v := .agg bu.toArray) (c' := bu.toArray) wR rfl rfl (aO.b0) (zW ⟨rfl, aN.1.one, trivial⟩) yqc rfl ?_)
 intro w442 cA
 have ai := aO.pt0 cA
 refine st (aS (.bool ((zh d X (ty, ag)).isSome)) (zb (za (zw kr (st (mV (.bool ((zh d (zY d ((e.take k).filter (qE ty ag))) (ty, ag)).isSome)) (st (mV (.bool ((zh d X (ty, ag)).isSome)) (st (Ut (a := (zh d (zY d ((e.take k).filter (qE ty ag))) (ty, ag)).isSome) (b := (zh d X (ty, ag)).isSome) Tryd.underlying4 rfl rfl ?_))))))))))
 have bg : (((zh d (zY d ((e.take k).filter (qE ty ag))) (ty, ag)).isSome) == ((zh d X (ty, ag)).isSome)) = true := (by rw [QY (by omega), Xt, hX]; simp)
 rw [bg]
 refine st (mV (.bool true) (sty rfl rfl (zg (k := 2) tA wR rfl rfl (CellsAt.all (ai.b3)) (sty rfl rfl (zg (k := 2) tA wR rfl rfl (CellsAt.all (ai.b0)) ?_)))))
 obtain ⟨G447, cB, hB450, cC, cD⟩ := (ai.mv5).lend
 have ar := RowE.rd cB
 have hrd453s : _ * 32 ≤ _ := ar.small
 obtain ⟨G455, cE, cF, cG, cH⟩ := (cC.mv2).lend
 have au := RowE.rd cE
 have hrd461s : _ * 32 ≤ _ := au.small
 refine sty rfl rfl (cL Tryd.call34 (YB (x := (ye d (ty, ag) (zY d ((e.take k).filter (qE ty ag))))) (y := (ye d (ty, ag) X)) (RdS.base ar cF) (XF (by first | omega | (rw [yq]; omega) | (rw [yq]; exact Nat.le_trans (List.length_filter_le _ _) (by rw [List.length_take]; omega)))) au (XF (by first | omega | (rw [yq]; omega) | (rw [yq]; exact Nat.le_trans (List.length_filter_le _ _) (by rw [List.length_take]; omega)))) cG) ?_)
 rintro _ w462 ⟨rfl, cI⟩
 have cJ := cH _ _ cI
 have cK := cD _ _ cJ
 have bh : (decide ((ye d (ty, ag) (zY d ((e.take k).filter (qE ty ag)))) = (ye d (ty, ag) X))) = true := (by rw [QY (by omega), Vs, hX]; simp)
 rw [bh]
 refine st (zN (v := .bool true) rfl rfl (st (mV (.bool true) (sty rfl rfl (cL vR (xj  (RdS.base (RdS.base hKN F) t) cK) ?_)))))
 rintro _ dH ⟨rfl, cM⟩
 refine st (zN (v := .bool true) rfl rfl (st (aS (.bool true) (zb (zm (zL uA (show _ = (.bool true : Value) from rfl) ?_))))))
 have cN := bE _ _ cM
 have cO := dv _ _ cN
 have cP : Sep G W Rs dH := cO.sel 13 [] (Nat.le_add_left _ _) rfl rfl
 refine ⟨rfl, cP⟩
 have Q := tD Q
 refine zj rfl (zk (za (zn (za (zw kr (st (mV m (st (mV (Iw k) ?_)))))))))
 have cQ : k < e.length := bo
 refine st (ze (k := 10) (i := k) rT oT rfl (RdS.base q t).sl rfl cQ (st (yB rfl ?_)))
 have S : k < e.length := bo
 obtain ⟨Z, aa, aV⟩ := (RdS.base q t).evD S
 have hsm475 : ((e.getD k default).deps).length * 8 ≤ 140737488355328 := aa.small
 have bi := B.cells Z ((RdS.base q t).foot (ne_of_lt S))
 refine st (lD (Iv ((e.getD k default).typ)) lT rfl (bi.get (j := 4) rfl) (st (mV (Iv ty) (st (zF (k := .i64) (a := (e.getD k default).typ) (b := ty) rfl rfl (st (mV (.bool (decide (((e.getD k default).typ) = ty))) (stc (V := m) rfl rfl (fun cR => ?_) ?_))))))))
 have hl478 := tD cR
 exact mV m ⟨rfl, rfl⟩
 refine stc (V := Iw k) rfl rfl (fun cS => ?_) ?_
 have hl480 := tD cS
 exact mV (Iw k) ⟨rfl, rfl⟩
 refine stc (V := Ix (sb m) (so m + k * 10)) rfl rfl (fun aj => ?_) ?_
 have hl482 := tD aj
 have cT : k < e.length := bo
 exact ze (k := 10) (i := k) rT oT (if_pos aj) (RdS.base q t).sl (if_pos aj) cT ⟨rfl, rfl⟩
 refine stc (V := Ix (sb m) (so m + k * 10 + 5)) rfl rfl (fun aP => ?_) ?_
 have hl485 := tD aP
 exact xl (if_pos aP) ⟨rfl, rfl⟩
 refine stc (V := Iv ((e.getD k default).agg)) rfl rfl (fun aQ => ?_) ?_
 have hl487 := tD aQ
 have bj := B.cells Z ((RdS.base q t).foot (ne_of_lt S))
 exact lD (Iv ((e.getD k default).agg)) lT (if_pos aQ) (bj.get (j := 5) rfl) ⟨rfl, rfl⟩
 refine stc (V := Iv ag) rfl rfl (fun cU => ?_) ?_
 have hl491 := tD cU
 exact mV (Iv ag) ⟨rfl, rfl⟩
 refine stc (V := .bool (decide (((e.getD k default).agg) = ag))) rfl rfl (fun ak => ?_) ?_
 have hl493 := tD ak
 exact zF (k := .i64) (a := (e.getD k default).agg) (b := ag) (if_pos ak) (if_pos ak) ⟨rfl, rfl⟩
 refine st (zo (b := decide (((e.getD k default).typ) = ty)) (b' := decide (((e.getD k default).agg) = ag)) rfl (fun hbp => (if_pos hbp)) (zb ?_))
 cases T : (decide (((e.getD k default).typ) = ty)) && (decide (((e.getD k default).agg) = ag))
 try simp only [zf] at T
 have H : qE ty ag (e.getD k default) = false := by unfold qE; exact decide_eq_false (fun h9 => T.elim (fun h8 => h8 h9.1) (fun h8 => h8 h9.2))
 have ab : qX ty ag (X.getD k default) = false := by rw [hX]; exact QF (by omega) H
 refine zi rfl (zk (R0 fun _ => st (mV (Iw k) ?_)))
 have cV : InR ((k + 1 : Nat) : Int) := bo
 refine st (zH (r := ((k + 1 : Nat) : Int)) (k := .i64) (a := ((k : Nat) : Int)) (b := 1) rfl rfl (by rw [show (((k : Nat) : Int) + 1 : Int) = ((k + 1 : Nat) : Int) from bo]; exact zz cV) (st (aS (Iw (k + 1)) (zb ?_))))
 have cW : ((e.take (k + 1)).filter (qE ty ag)) = ((e.take k).filter (qE ty ag)) := (Qa om H)
 rw [← cW] at B
 have cX : ((X.take (k + 1)).filter (qX ty ag)) = ((X.take k).filter (qX ty ag)) := (Qa om ab)
 rw [← cX] at B
 exact ⟨_, by omega, k + 1, vo, vw, _, rfl, sSf, by omega, B⟩
 try simp only [zf] at T
 have H : qE ty ag (e.getD k default) = true := by unfold qE; exact decide_eq_true T
 have ab : qX ty ag (X.getD k default) = true := by rw [hX]; exact QF (by omega) H
 have bk := List.length_filter_le (qE ty ag) (e.take k)
 have bl := List.length_filter_le (qX ty ag) (X.take k)
 rw [List.length_take] at bk bl
 refine zj rfl (za (R0 fun _ => st (mV vo (st (mV m (st (mV (Iw k) ?_)))))))
 have cY : k < e.length := bo
 refine st (ze (k := 10) (i := k) rT oT rfl (RdS.base q t).sl rfl cY ?_)
 have bm := B.cells Z ((RdS.base q t).foot (ne_of_lt S))
 refine st (zg (k := 10) mR oT rfl rfl bm (st (zu (k := 10) (parts' := [(0, .agg ((e.getD k default).cells (zy s (sb m) (so m + k * 10 + 3))).toArray)]) (c := ((e.getD k default).cells (zy s (sb m) (so m + k * 10 + 3))).toArray) rT oT oY dc rfl kr ?_)))
 intro w503 b502 cZ
 have aR := B.new cZ
 have bn := aR.b0
 refine st (yj (src := (shr C s)) (bytes := 96) (x1 := (e.getD k default)) ((aR.s7_cbdefg).emp1) Jb rfl rfl bn (fun _ _ _ => (show _ from ⟨_, rfl, aa, aV⟩)) yqb rfl ?_)
 intro bp w505 al
 have da := al.r0
 have hr511s : _ * 96 ≤ _ := da.2
 refine st (aS bp (zb (R0 fun _ => st (mV vw (st (mV u (st (mV (Iw k) ?_))))))))
 have db : k < X.length := bo
 refine st (ze (k := 13) (i := k) nT pT rfl D.sl rfl db ?_)
 have aT : k < X.length := bo
 obtain ⟨bq, ac, aW⟩ := D.entD aT
 have hsm515 : ((X.getD k default).ev.deps).length * 8 ≤ 140737488355328 := ac.small
 have br := al.cells bq (D.foot (ne_of_lt aT))
 refine st (zg (k := 13) Tryd.isAgg62 pT rfl rfl br (st (zu (k := 13) (parts' := [(0, .agg ((X.getD k default).cells (zy s (sb u) (so u + k * 13 + 3))).toArray)]) (c := ((X.getD k default).cells (zy s (sb u) (so u + k * 13 + 3))).toArray) nT pT Tryd.zeroValue62 dc rfl kr ?_)))
 intro w519 b518 dd
 have aU := al.new dd
 have bs := aU.b0
 refine st (yj (src := (shr C s)) (bytes := 120) (x1 := (X.getD k default)) ((aU.s7_cbdefg).emp1) Qc rfl rfl bs (fun _ _ _ => (show _ from ⟨_, rfl, ac, aW⟩)) yqb rfl ?_)
 intro bt w521 U
 have de := U.r0
 have hr527s : _ * 120 ≤ _ := de.2
 refine st (aS bt (zb (R0 fun _ => st (mV (Iw k) ?_))))
 have df : InR ((k + 1 : Nat) : Int) := bo
 refine st (zH (r := ((k + 1 : Nat) : Int)) (k := .i64) (a := ((k : Nat) : Int)) (b := 1) rfl rfl (by rw [show (((k : Nat) : Int) + 1 : Int) = ((k + 1 : Nat) : Int) from bo]; exact zz df) (st (aS (Iw (k + 1)) (zb ?_))))
 have dg : ((e.take (k + 1)).filter (qE ty ag)) = ((e.take k).filter (qE ty ag)) ++ [(e.getD k default)] := (QN om H)
 rw [← dg] at U
 have dh : ((X.take (k + 1)).filter (qX ty ag)) = ((X.take k).filter (qX ty ag)) ++ [(X.getD k default)] := (QN om ab)
 rw [← dh] at U
 exact ⟨_, by omega, k + 1, bp, bt, _, rfl, sSf, by omega, U⟩
 try simp only [zf] at aX
 refine zj rfl (za (R0 fun _ => st (cL vR (xj  hKN dk) ?_)))
 rintro _ w531 ⟨rfl, di⟩
 refine st (aS (.bool true) (zb (zm (zL uA (show _ = (.bool true : Value) from rfl) ?_))))
 refine ⟨rfl, (di.s1_)⟩

end Go.Proofs.YtlblilbmpdejgaaDoor
