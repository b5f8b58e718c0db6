import Derived.Test.YtlblilbmpdejgaaDoorT8
import Derived.Test.YtlblilbmpdejgaaDoorT2
set_option linter.unusedSimpArgs false
set_option linter.unusedVariables false
set_option linter.unusedSectionVars false
set_option linter.deprecated false
/- Steps of the proofs of this seat: part F11. -/
set_option maxRecDepth 8000
set_option maxHeartbeats 4000000
namespace Go.Proofs.YtlblilbmpdejgaaDoor
open Go.Proofs Go.RowKit

theorem QV {a b : Ent} (h1 : a.ev = b.ev) (h2 : (a.void == b.void) = true) (h3 : a.byO = b.byO ∧ a.byS = b.byS) : a = b := by
  rw [Ent.eq_iff]; exact ⟨h1, by simpa using h2, h3.1, h3.2⟩
theorem UW {a b : Ent} (h : (a.ev = b.ev ∧ (a.void == b.void) = true) ∧ a.byO = b.byO ∧ a.byS = b.byS) : a = b := QV h.1.1 h.1.2 h.2
theorem xB {G : Nat → Prop} {W w : World} {Rs : List HP} {va : Value} {a : List Ent} (ha : RdS W G va a) {vb : Value} {b : List Ent} (hb : RdS W G vb b) (hS0 : Sep G W Rs w) : Ret Tryd.prog 31 [va, vb] w (fun r w' => r = (.bool (decide (a = b)) : Value) ∧ Sep G W Rs w') := by
 have has : _ * 120 ≤ _ := ha.small
 have hbs : _ * 120 ≤ _ := hb.small
 refine zr (args := [va, vb]) Tryd.func31 rfl rfl ?_
 refine zd (za kr (fun _ => (st (ze (v := .bool false) rfl (zf (zd (zd (za kr (fun _ => (st (zb (v := va) rfl (st (zJ (n := a.length) Tryd.underlying66 rfl ha.sl (st (zb (v := vb) rfl (st (zJ (n := b.length) Tryd.underlying66 rfl hb.sl (st (yq (k := .i64) (a := ((a.length : Nat) : Int)) (b := ((b.length : Nat) : Int)) rfl rfl (zf ?_))))))))))))))))))))
 cases ak : !decide (((a.length : Nat) : Int) = ((b.length : Nat) : Int))
 have ak := zC ak
 refine zn rfl (zv (zd (zd (za kr (fun _ => (st (ze (v := Iv 0) rfl (zf (zw (yd (fun mq σ wq => ∃ (k : Nat) (ρ : Env), mq = a.length - k ∧ σ = yh ρ [(0, va), (1, vb), (5, Iw k)] ∧ (k ≤ a.length) ∧ (∀ i, i < k → a.getD i default = b.getD i default) ∧ Sep G W Rs wq) ⟨0, _, rfl, zq ⟨rfl, rfl, rfl, trivial⟩, Nat.zero_le _, (fun i h => absurd h (Nat.not_lt_zero i)), hS0⟩ ?_))))))))))
 rintro m3 σ4 w2 ⟨k, ρl1, rfl, rfl, hkk, hm, cn⟩
 refine zd (zd (za kr (fun _ => (st (zb (v := Iw k) rfl (st (zb (v := va) rfl (st (zJ (n := a.length) Tryd.underlying66 rfl ha.sl (st (zL (k := .i64) (a := ((k : Nat) : Int)) (b := ((a.length : Nat) : Int)) rfl rfl (zf ?_))))))))))))
 cases ax : decide (((k : Nat) : Int) < ((a.length : Nat) : Int))
 have ax := fD ax
 refine zn rfl (yc (zU (zd (za kr (fun _ => (st (ze (v := .bool true) rfl (zf (zt (zO Tryd.results31 (show _ = (.bool true : Value) from rfl) ?_))))))))))
 refine ⟨?_, cn⟩
 rw [decide_eq_true (Xa (by omega) (fun i hi => hm i (by omega)))]
 have ax := tD ax
 refine zo rfl (zv (zd (zw (zd ?_))))
 refine WD4 (WF [fun vals wq => Sep G W Rs wq, fun vals wq => (vals 10 = (.bool (decide (((a.getD k default).ev) = ((b.getD k default).ev))) : Value)) ∧ Sep G W Rs wq]) (AF [Vl 0 (va), Vl 1 (Iw k), Vl 2 (Ix (sb va) (so va + k * 13)), Vl 3 (Ix (sb va) (so va + k * 13)), Vl 4 (.agg (((a.getD k default).ev).cells (zi W (sb va) (so va + k * 13 + 3))).toArray), Vl 5 (vb), Vl 6 (Iw k), Vl 7 (Ix (sb vb) (so vb + k * 13)), Vl 8 (Ix (sb vb) (so vb + k * 13)), Vl 9 (.agg (((b.getD k default).ev).cells (zi W (sb vb) (so vb + k * 13 + 3))).toArray), fun _ => True, Vl 11 (.bool (!(decide (((a.getD k default).ev) = ((b.getD k default).ev))))), Vl 12 (.bool (!(decide (((a.getD k default).ev) = ((b.getD k default).ev))))), Vl 13 (if (!(decide (((a.getD k default).ev) = ((b.getD k default).ev)))) = false then va else undef), Vl 14 (if (!(decide (((a.getD k default).ev) = ((b.getD k default).ev)))) = false then Iw k else undef), Vl 15 (if (!(decide (((a.getD k default).ev) = ((b.getD k default).ev)))) = false then Ix (sb va) (so va + k * 13) else undef), Vl 16 (if (!(decide (((a.getD k default).ev) = ((b.getD k default).ev)))) = false then Ix (sb va) (so va + k * 13 + 10) else undef), Vl 17 (if (!(decide (((a.getD k default).ev) = ((b.getD k default).ev)))) = false then .bool ((a.getD k default).void) else undef), Vl 18 (if (!(decide (((a.getD k default).ev) = ((b.getD k default).ev)))) = false then vb else undef), Vl 19 (if (!(decide (((a.getD k default).ev) = ((b.getD k default).ev)))) = false then Iw k else undef), Vl 20 (if (!(decide (((a.getD k default).ev) = ((b.getD k default).ev)))) = false then Ix (sb vb) (so vb + k * 13) else undef), Vl 21 (if (!(decide (((a.getD k default).ev) = ((b.getD k default).ev)))) = false then Ix (sb vb) (so vb + k * 13 + 10) else undef), Vl 22 (if (!(decide (((a.getD k default).ev) = ((b.getD k default).ev)))) = false then .bool ((b.getD k default).void) else undef), Vl 23 (if (!(decide (((a.getD k default).ev) = ((b.getD k default).ev)))) = false then .bool (!(((a.getD k default).void) == ((b.getD k default).void))) else undef), Vl 24 (.bool ((!(decide (((a.getD k default).ev) = ((b.getD k default).ev)))) || (!(((a.getD k default).void) == ((b.getD k default).void))))), Vl 25 (.bool ((!(decide (((a.getD k default).ev) = ((b.getD k default).ev)))) || (!(((a.getD k default).void) == ((b.getD k default).void))))), Vl 26 (if ((!(decide (((a.getD k default).ev) = ((b.getD k default).ev)))) || (!(((a.getD k default).void) == ((b.getD k default).void)))) = false then va else undef), Vl 27 (if ((!(decide (((a.getD k default).ev) = ((b.getD k default).ev)))) || (!(((a.getD k default).void) == ((b.getD k default).void)))) = false then Iw k else undef), Vl 28 (if ((!(decide (((a.getD k default).ev) = ((b.getD k default).ev)))) || (!(((a.getD k default).void) == ((b.getD k default).void)))) = false then Ix (sb va) (so va + k * 13) else undef), Vl 29 (if ((!(decide (((a.getD k default).ev) = ((b.getD k default).ev)))) || (!(((a.getD k default).void) == ((b.getD k default).void)))) = false then Ix (sb va) (so va + k * 13 + 11) else undef), Vl 30 (if ((!(decide (((a.getD k default).ev) = ((b.getD k default).ev)))) || (!(((a.getD k default).void) == ((b.getD k default).void)))) = false then .agg #[Iv ((a.getD k default).byO), Iv ((a.getD k default).byS)] else undef), Vl 31 (if ((!(decide (((a.getD k default).ev) = ((b.getD k default).ev)))) || (!(((a.getD k default).void) == ((b.getD k default).void)))) = false then vb else undef), Vl 32 (if ((!(decide (((a.getD k default).ev) = ((b.getD k default).ev)))) || (!(((a.getD k default).void) == ((b.getD k default).void)))) = false then Iw k else undef), Vl 33 (if ((!(decide (((a.getD k default).ev) = ((b.getD k default).ev)))) || (!(((a.getD k default).void) == ((b.getD k default).void)))) = false then Ix (sb vb) (so vb + k * 13) else undef), Vl 34 (if ((!(decide (((a.getD k default).ev) = ((b.getD k default).ev)))) || (!(((a.getD k default).void) == ((b.getD k default).void)))) = false then Ix (sb vb) (so vb + k * 13 + 11) else undef), Vl 35 (if ((!(decide (((a.getD k default).ev) = ((b.getD k default).ev)))) || (!(((a.getD k default).void) == ((b.getD k default).void)))) = false then .agg #[Iv ((b.getD k default).byO), Iv ((b.getD k default).byS)] else undef), Vl 36 (if ((!(decide (((a.getD k default).ev) = ((b.getD k default).ev)))) || (!(((a.getD k default).void) == ((b.getD k default).void)))) = false then .bool (!decide ((a.getD k default).byO = (b.getD k default).byO ∧ (a.getD k default).byS = (b.getD k default).byS)) else undef), Vl 37 (.bool (((!(decide (((a.getD k default).ev) = ((b.getD k default).ev)))) || (!(((a.getD k default).void) == ((b.getD k default).void)))) || (!decide ((a.getD k default).byO = (b.getD k default).byO ∧ (a.getD k default).byS = (b.getD k default).byS))))]) [[], [], [0, 1], [0, 1, 2], (rg 4), [], [], [5, 6], [5, 6, 7], [5, 6, 7, 8], (rg 10), (rg 11), (rg 12), (rg 13), (rg 13), (rg 15), (rg 16), (rg 17), (rg 13), (rg 13), [0, 1, 2, 3, 4, 5, 6, 7, 8, 9, 10, 11, 12, 18, 19], [0, 1, 2, 3, 4, 5, 6, 7, 8, 9, 10, 11, 12, 18, 19, 20], [0, 1, 2, 3, 4, 5, 6, 7, 8, 9, 10, 11, 12, 18, 19, 20, 21], (rg 23), (rg 24), (rg 25), (rg 26), (rg 26), (rg 28), (rg 29), (rg 30), (rg 26), (rg 26), [0, 1, 2, 3, 4, 5, 6, 7, 8, 9, 10, 11, 12, 13, 14, 15, 16, 17, 18, 19, 20, 21, 22, 23, 24, 25, 31, 32], [0, 1, 2, 3, 4, 5, 6, 7, 8, 9, 10, 11, 12, 13, 14, 15, 16, 17, 18, 19, 20, 21, 22, 23, 24, 25, 31, 32, 33], [0, 1, 2, 3, 4, 5, 6, 7, 8, 9, 10, 11, 12, 13, 14, 15, 16, 17, 18, 19, 20, 21, 22, 23, 24, 25, 31, 32, 33, 34], (rg 36), (rg 37)] [10] [(0, 0), (0, 0), (0, 0), (0, 0), (0, 0), (0, 0), (0, 0), (0, 0), (0, 0), (0, 0), (0, 0), (1, 1), (1, 1), (1, 1), (1, 1), (1, 1), (1, 1), (1, 1), (1, 1), (1, 1), (1, 1), (1, 1), (1, 1), (1, 1), (1, 1), (1, 1), (1, 1), (1, 1), (1, 1), (1, 1), (1, 1), (1, 1), (1, 1), (1, 1), (1, 1), (1, 1), (1, 1), (1, 1)] cn ⟨?_, ?_, ?_, ?_, ?_, ?_, ?_, ?_, ?_, ?_, ?_, ?_, ?_, ?_, ?_, ?_, ?_, ?_, ?_, ?_, ?_, ?_, ?_, ?_, ?_, ?_, ?_, ?_, ?_, ?_, ?_, ?_, ?_, ?_, ?_, ?_, ?_, ?_, trivial⟩ ?_
 exact fun _ _ _ _ _ _ _ => obl rfl (zb (v := va) rfl dR)
 exact fun _ _ _ _ _ _ _ => obl rfl (zb (v := Iw k) rfl dR)
 refine ob1 0 fun _ _ _ ay => (obl rfl ?_)
 have bl : k < a.length := bo
 exact zk (k := 13) (i := k) Tryd.underlying66 Tryd.sizeOf62 (ay 0 dc) ha.sl (ay 1 dc) bl dR
 exact fun _ _ _ _ _ _ bm => obl rfl (Za (bm 2 dc) dR)
 refine ob1 0 fun _ _ (bn : Sep _ _ _ _) bp => (obl rfl ?_)
 have X : k < a.length := bo
 obtain ⟨al, P, aX⟩ := ha.ent X
 rw [← zm default X] at al P aX
 have hsm433 : ((a.getD k default).ev.deps).length * 8 ≤ 140737488355328 := P.small
 have be := bn.cells al (ha.foot (ne_of_lt X))
 exact zl (k := 10) (cs := [Iv ((a.getD k default).ev.origin), Iv ((a.getD k default).ev.seq), Iv ((a.getD k default).ev.lam), (zi W (sb va) (so va + k * 13 + 3)), Iv ((a.getD k default).ev.typ), Iv ((a.getD k default).ev.agg), Iv ((a.getD k default).ev.field), Iv ((a.getD k default).ev.op), Iv ((a.getD k default).ev.arg), Iv ((a.getD k default).ev.key)]) Tryd.isAgg59 Tryd.sizeOf59 rfl (bp 3 dc) (CellsAt.sub be 0 (cs2 := [Iv ((a.getD k default).ev.origin), Iv ((a.getD k default).ev.seq), Iv ((a.getD k default).ev.lam), (zi W (sb va) (so va + k * 13 + 3)), Iv ((a.getD k default).ev.typ), Iv ((a.getD k default).ev.agg), Iv ((a.getD k default).ev.field), Iv ((a.getD k default).ev.op), Iv ((a.getD k default).ev.arg), Iv ((a.getD k default).ev.key)]) rfl) dR
 exact fun _ _ _ _ _ _ _ => obl rfl (zb (v := vb) rfl dR)
 exact fun _ _ _ _ _ _ _ => obl rfl (zb (v := Iw k) rfl dR)
 refine ob1 0 fun _ _ _ az => (obl rfl ?_)
 have bq : k < b.length := bo
 exact zk (k := 13) (i := k) Tryd.underlying66 Tryd.sizeOf62 (az 5 dc) hb.sl (az 6 dc) bq dR
 exact fun _ _ _ _ _ _ br => obl rfl (Za (br 7 dc) dR)
 refine ob1 0 fun _ _ (bs : Sep _ _ _ _) bt => (obl rfl ?_)
 have Y : k < b.length := bo
 obtain ⟨am, Q, aY⟩ := hb.ent Y
 rw [← zm default Y] at am Q aY
 have hsm474 : ((b.getD k default).ev.deps).length * 8 ≤ 140737488355328 := Q.small
 have bf := bs.cells am (hb.foot (ne_of_lt Y))
 exact zl (k := 10) (cs := [Iv ((b.getD k default).ev.origin), Iv ((b.getD k default).ev.seq), Iv ((b.getD k default).ev.lam), (zi W (sb vb) (so vb + k * 13 + 3)), Iv ((b.getD k default).ev.typ), Iv ((b.getD k default).ev.agg), Iv ((b.getD k default).ev.field), Iv ((b.getD k default).ev.op), Iv ((b.getD k default).ev.arg), Iv ((b.getD k default).ev.key)]) Tryd.isAgg59 Tryd.sizeOf59 rfl (bt 8 dc) (CellsAt.sub bf 0 (cs2 := [Iv ((b.getD k default).ev.origin), Iv ((b.getD k default).ev.seq), Iv ((b.getD k default).ev.lam), (zi W (sb vb) (so vb + k * 13 + 3)), Iv ((b.getD k default).ev.typ), Iv ((b.getD k default).ev.agg), Iv ((b.getD k default).ev.field), Iv ((b.getD k default).ev.op), Iv ((b.getD k default).ev.arg), Iv ((b.getD k default).ev.key)]) rfl) dR
 refine ob1 0 fun vals _ (av : Sep _ _ _ _) bg => (obl rfl ?_)
 have aw : k < a.length := bo
 obtain ⟨aA, E, an⟩ := ha.ent aw
 rw [← zm default aw] at aA E an
 have hsm100 : ((a.getD k default).ev.deps).length * 8 ≤ 140737488355328 := E.small
 have hcw101 := av.cells aA (ha.foot (ne_of_lt aw))
 have Z : k < b.length := bo
 obtain ⟨ao, t, V⟩ := hb.ent Z
 rw [← zm default Z] at ao t V
 have hsm104 : ((b.getD k default).ev.deps).length * 8 ≤ 140737488355328 := t.small
 have hcw105 := av.cells ao (hb.foot (ne_of_lt Z))
 refine (zu (f := 39) (vals := [.agg (((a.getD k default).ev).cells (zi W (sb va) (so va + k * 13 + 3))).toArray, .agg (((b.getD k default).ev).cells (zi W (sb vb) (so vb + k * 13 + 3))).toArray]) (cap := []) rfl (yP ⟨(bg 4 dc), (bg 9 dc), trivial⟩) Tryd.call39 (WU (a := ((a.getD k default).ev)) (b := ((b.getD k default).ev)) E an.ev t V.ev av) ?_)
 rintro _ w106 ⟨rfl, bu⟩
 exact fun c d hv' => ⟨(And.intro d bu), trivial⟩
 refine ob1 1 fun _ _ bv _ => ?_
 obtain ⟨g, hS482⟩ := bv
 exact obl rfl (yt (a := decide (((a.getD k default).ev) = ((b.getD k default).ev))) g dR)
 exact fun _ _ _ _ _ _ bw => obl rfl (zb (v := .bool (!(decide (((a.getD k default).ev) = ((b.getD k default).ev))))) (bw 11 dc) dR)
 refine fun _ _ _ _ _ _ bx => (zN rfl rfl (bx 12 dc) (fun F => ?_) (fun F => fun c d _ => ⟨trivial, d.trans (if_neg F).symm⟩))
 have aB := F
 have aB := zC aB
 exact zb (v := va) rfl (fun c d _ => ⟨rfl, d.trans (if_pos F).symm⟩)
 refine fun _ _ _ _ _ _ bz => (zN rfl rfl (bz 12 dc) (fun H => ?_) (fun H => fun c d _ => ⟨trivial, d.trans (if_neg H).symm⟩))
 have aC := H
 have aC := zC aC
 exact zb (v := Iw k) rfl (fun c d _ => ⟨rfl, d.trans (if_pos H).symm⟩)
 refine ob1 1 fun _ _ bA aa => ?_
 obtain ⟨g, hS514⟩ := bA
 refine zN rfl rfl (aa 12 dc) (fun l => ?_) (fun l => fun c d _ => ⟨trivial, d.trans (if_neg l).symm⟩)
 have aD := l
 have aD := zC aD
 have bB : k < a.length := bo
 exact zk (k := 13) (i := k) Tryd.underlying66 Tryd.sizeOf62 (show _ = (va : Value) from (Eq.trans (aa 13 dc) (if_pos l))) ha.sl (show _ = (Iw k : Value) from (Eq.trans (aa 14 dc) (if_pos l))) bB (fun c d _ => ⟨rfl, d.trans (if_pos l).symm⟩)
 refine fun _ _ _ _ _ _ aE => (zN rfl rfl (aE 12 dc) (fun u => ?_) (fun u => fun c d _ => ⟨trivial, d.trans (if_neg u).symm⟩))
 have aF := u
 have aF := zC aF
 exact xY (show _ = (Ix (sb va) (so va + k * 13) : Value) from (Eq.trans (aE 15 dc) (if_pos u))) (fun c d _ => ⟨rfl, d.trans (if_pos u).symm⟩)
 refine ob1 1 fun _ _ bC aG => ?_
 obtain ⟨g, bD⟩ := bC
 refine zN rfl rfl (aG 12 dc) (fun x => ?_) (fun x => fun c d _ => ⟨trivial, d.trans (if_neg x).symm⟩)
 have aH := x
 have aH := zC aH
 have ab : k < a.length := bo
 obtain ⟨ap, R, aZ⟩ := ha.ent ab
 rw [← zm default ab] at ap R aZ
 have hsm544 : ((a.getD k default).ev.deps).length * 8 ≤ 140737488355328 := R.small
 have bh := bD.cells ap (ha.foot (ne_of_lt ab))
 exact zg (v := .bool ((a.getD k default).void)) Tryd.isAgg4 (show _ = (Ix (sb va) (so va + k * 13 + 10) : Value) from (Eq.trans (aG 16 dc) (if_pos x))) (bh.get (j := 10) rfl) (fun c d _ => ⟨rfl, d.trans (if_pos x).symm⟩)
 refine fun _ _ _ _ _ _ bE => (zN rfl rfl (bE 12 dc) (fun I => ?_) (fun I => fun c d _ => ⟨trivial, d.trans (if_neg I).symm⟩))
 have aI := I
 have aI := zC aI
 exact zb (v := vb) rfl (fun c d _ => ⟨rfl, d.trans (if_pos I).symm⟩)
 refine fun _ _ _ _ _ _ bF => (zN rfl rfl (bF 12 dc) (fun J => ?_) (fun J => fun c d _ => ⟨trivial, d.trans (if_neg J).symm⟩))
 have aJ := J
 have aJ := zC aJ
 exact zb (v := Iw k) rfl (fun c d _ => ⟨rfl, d.trans (if_pos J).symm⟩)
 refine ob1 1 fun _ _ bG ac => ?_
 obtain ⟨g, hS570⟩ := bG
 refine zN rfl rfl (ac 12 dc) (fun m => ?_) (fun m => fun c d _ => ⟨trivial, d.trans (if_neg m).symm⟩)
 have aK := m
 have aK := zC aK
 have bH : k < b.length := bo
 exact zk (k := 13) (i := k) Tryd.underlying66 Tryd.sizeOf62 (show _ = (vb : Value) from (Eq.trans (ac 18 dc) (if_pos m))) hb.sl (show _ = (Iw k : Value) from (Eq.trans (ac 19 dc) (if_pos m))) bH (fun c d _ => ⟨rfl, d.trans (if_pos m).symm⟩)
 refine fun _ _ _ _ _ _ aL => (zN rfl rfl (aL 12 dc) (fun y => ?_) (fun y => fun c d _ => ⟨trivial, d.trans (if_neg y).symm⟩))
 have aM := y
 have aM := zC aM
 exact xY (show _ = (Ix (sb vb) (so vb + k * 13) : Value) from (Eq.trans (aL 20 dc) (if_pos y))) (fun c d _ => ⟨rfl, d.trans (if_pos y).symm⟩)
 refine ob1 1 fun _ _ bI aN => ?_
 obtain ⟨g, bJ⟩ := bI
 refine zN rfl rfl (aN 12 dc) (fun z => ?_) (fun z => fun c d _ => ⟨trivial, d.trans (if_neg z).symm⟩)
 have aO := z
 have aO := zC aO
 have ad : k < b.length := bo
 obtain ⟨aq, S, ba⟩ := hb.ent ad
 rw [← zm default ad] at aq S ba
 have hsm600 : ((b.getD k default).ev.deps).length * 8 ≤ 140737488355328 := S.small
 have bi := bJ.cells aq (hb.foot (ne_of_lt ad))
 exact zg (v := .bool ((b.getD k default).void)) Tryd.isAgg4 (show _ = (Ix (sb vb) (so vb + k * 13 + 10) : Value) from (Eq.trans (aN 21 dc) (if_pos z))) (bi.get (j := 10) rfl) (fun c d _ => ⟨rfl, d.trans (if_pos z).symm⟩)
 refine ob1 1 fun _ _ bK ae => ?_
 obtain ⟨g, hS608⟩ := bK
 refine zN rfl rfl (ae 12 dc) (fun o => ?_) (fun o => fun c d _ => ⟨trivial, d.trans (if_neg o).symm⟩)
 have aP := o
 have aP := zC aP
 exact Ud (a := (a.getD k default).void) (b := (b.getD k default).void) Tryd.underlying4 (show _ = (.bool ((a.getD k default).void) : Value) from (Eq.trans (ae 17 dc) (if_pos o))) (show _ = (.bool ((b.getD k default).void) : Value) from (Eq.trans (ae 22 dc) (if_pos o))) (fun c d _ => ⟨rfl, d.trans (if_pos o).symm⟩)
 exact fun _ _ _ _ _ _ aQ => obl rfl (zG (b := !(decide (((a.getD k default).ev) = ((b.getD k default).ev)))) (b' := !(((a.getD k default).void) == ((b.getD k default).void))) (aQ 12 dc) (fun hbp => (show _ = (.bool (!(((a.getD k default).void) == ((b.getD k default).void))) : Value) from (Eq.trans (aQ 23 dc) (if_pos hbp)))) dR)
 exact fun _ _ _ _ _ _ bL => obl rfl (zb (v := .bool ((!(decide (((a.getD k default).ev) = ((b.getD k default).ev)))) || (!(((a.getD k default).void) == ((b.getD k default).void))))) (bL 24 dc) dR)
 refine fun _ _ _ _ _ _ bM => (zN rfl rfl (bM 25 dc) (fun K => ?_) (fun K => fun c d _ => ⟨trivial, d.trans (if_neg K).symm⟩))
 have bN := K
 try simp only [zj] at bN
 exact zb (v := va) rfl (fun c d _ => ⟨rfl, d.trans (if_pos K).symm⟩)
 refine fun _ _ _ _ _ _ bO => (zN rfl rfl (bO 25 dc) (fun L => ?_) (fun L => fun c d _ => ⟨trivial, d.trans (if_neg L).symm⟩))
 have bP := L
 try simp only [zj] at bP
 exact zb (v := Iw k) rfl (fun c d _ => ⟨rfl, d.trans (if_pos L).symm⟩)
 refine ob1 1 fun _ _ bQ af => ?_
 obtain ⟨g, hS653⟩ := bQ
 refine zN rfl rfl (af 25 dc) (fun p => ?_) (fun p => fun c d _ => ⟨trivial, d.trans (if_neg p).symm⟩)
 have bR := p
 try simp only [zj] at bR
 have bS : k < a.length := bo
 exact zk (k := 13) (i := k) Tryd.underlying66 Tryd.sizeOf62 (show _ = (va : Value) from (Eq.trans (af 26 dc) (if_pos p))) ha.sl (show _ = (Iw k : Value) from (Eq.trans (af 27 dc) (if_pos p))) bS (fun c d _ => ⟨rfl, d.trans (if_pos p).symm⟩)
 refine fun _ _ _ _ _ _ aR => (zN rfl rfl (aR 25 dc) (fun A => ?_) (fun A => fun c d _ => ⟨trivial, d.trans (if_neg A).symm⟩))
 have bT := A
 try simp only [zj] at bT
 exact Xl (show _ = (Ix (sb va) (so va + k * 13) : Value) from (Eq.trans (aR 28 dc) (if_pos A))) (fun c d _ => ⟨rfl, d.trans (if_pos A).symm⟩)
 refine ob1 1 fun _ _ bU aS => ?_
 obtain ⟨g, bV⟩ := bU
 refine zN rfl rfl (aS 25 dc) (fun B => ?_) (fun B => fun c d _ => ⟨trivial, d.trans (if_neg B).symm⟩)
 have bW := B
 try simp only [zj] at bW
 have ag : k < a.length := bo
 obtain ⟨ar, T, bb⟩ := ha.ent ag
 rw [← zm default ag] at ar T bb
 have hsm683 : ((a.getD k default).ev.deps).length * 8 ≤ 140737488355328 := T.small
 have bj := bV.cells ar (ha.foot (ne_of_lt ag))
 exact zl (k := 2) (cs := [Iv ((a.getD k default).byO), Iv ((a.getD k default).byS)]) Tryd.isAgg57 Tryd.sizeOf57 rfl (show _ = (Ix (sb va) (so va + k * 13 + 11) : Value) from (Eq.trans (aS 29 dc) (if_pos B))) (CellsAt.sub bj 11 (cs2 := [Iv ((a.getD k default).byO), Iv ((a.getD k default).byS)]) rfl) (fun c d _ => ⟨rfl, d.trans (if_pos B).symm⟩)
 refine fun _ _ _ _ _ _ bX => (zN rfl rfl (bX 25 dc) (fun M => ?_) (fun M => fun c d _ => ⟨trivial, d.trans (if_neg M).symm⟩))
 have bY := M
 try simp only [zj] at bY
 exact zb (v := vb) rfl (fun c d _ => ⟨rfl, d.trans (if_pos M).symm⟩)
 refine fun _ _ _ _ _ _ bZ => (zN rfl rfl (bZ 25 dc) (fun N => ?_) (fun N => fun c d _ => ⟨trivial, d.trans (if_neg N).symm⟩))
 have ca := N
 try simp only [zj] at ca
 exact zb (v := Iw k) rfl (fun c d _ => ⟨rfl, d.trans (if_pos N).symm⟩)
 refine ob1 1 fun _ _ cb ah => ?_
 obtain ⟨g, hS709⟩ := cb
 refine zN rfl rfl (ah 25 dc) (fun q => ?_) (fun q => fun c d _ => ⟨trivial, d.trans (if_neg q).symm⟩)
 have cc := q
 try simp only [zj] at cc
 have cd : k < b.length := bo
 exact zk (k := 13) (i := k) Tryd.underlying66 Tryd.sizeOf62 (show _ = (vb : Value) from (Eq.trans (ah 31 dc) (if_pos q))) hb.sl (show _ = (Iw k : Value) from (Eq.trans (ah 32 dc) (if_pos q))) cd (fun c d _ => ⟨rfl, d.trans (if_pos q).symm⟩)
 refine fun _ _ _ _ _ _ aT => (zN rfl rfl (aT 25 dc) (fun C => ?_) (fun C => fun c d _ => ⟨trivial, d.trans (if_neg C).symm⟩))
 have ce := C
 try simp only [zj] at ce
 exact Xl (show _ = (Ix (sb vb) (so vb + k * 13) : Value) from (Eq.trans (aT 33 dc) (if_pos C))) (fun c d _ => ⟨rfl, d.trans (if_pos C).symm⟩)
 refine ob1 1 fun _ _ cf aU => ?_
 obtain ⟨g, cg⟩ := cf
 refine zN rfl rfl (aU 25 dc) (fun D => ?_) (fun D => fun c d _ => ⟨trivial, d.trans (if_neg D).symm⟩)
 have ch := D
 try simp only [zj] at ch
 have ai : k < b.length := bo
 obtain ⟨au, U, bc⟩ := hb.ent ai
 rw [← zm default ai] at au U bc
 have hsm739 : ((b.getD k default).ev.deps).length * 8 ≤ 140737488355328 := U.small
 have bk := cg.cells au (hb.foot (ne_of_lt ai))
 exact zl (k := 2) (cs := [Iv ((b.getD k default).byO), Iv ((b.getD k default).byS)]) Tryd.isAgg57 Tryd.sizeOf57 rfl (show _ = (Ix (sb vb) (so vb + k * 13 + 11) : Value) from (Eq.trans (aU 34 dc) (if_pos D))) (CellsAt.sub bk 11 (cs2 := [Iv ((b.getD k default).byO), Iv ((b.getD k default).byS)]) rfl) (fun c d _ => ⟨rfl, d.trans (if_pos D).symm⟩)
 refine ob1 1 fun _ _ ci aj => ?_
 obtain ⟨g, hS747⟩ := ci
 refine zN rfl rfl (aj 25 dc) (fun s => ?_) (fun s => fun c d _ => ⟨trivial, d.trans (if_neg s).symm⟩)
 have cj := s
 try simp only [zj] at cj
 exact YI (e := decide ((a.getD k default).byO = (b.getD k default).byO ∧ (a.getD k default).byS = (b.getD k default).byS)) (xs := #[Iv ((a.getD k default).byO), Iv ((a.getD k default).byS)]) (ys := #[Iv ((b.getD k default).byO), Iv ((b.getD k default).byS)]) Qp (show _ = (.agg #[Iv ((a.getD k default).byO), Iv ((a.getD k default).byS)] : Value) from (Eq.trans (aj 30 dc) (if_pos s))) (show _ = (.agg #[Iv ((b.getD k default).byO), Iv ((b.getD k default).byS)] : Value) from (Eq.trans (aj 35 dc) (if_pos s))) (fun c d _ => ⟨rfl, d.trans (if_pos s).symm⟩)
 exact fun _ _ _ _ _ _ aV => obl rfl (zG (b := (!(decide (((a.getD k default).ev) = ((b.getD k default).ev)))) || (!(((a.getD k default).void) == ((b.getD k default).void)))) (b' := !decide ((a.getD k default).byO = (b.getD k default).byO ∧ (a.getD k default).byS = (b.getD k default).byS)) (aV 25 dc) (fun hbp => (show _ = (.bool (!decide ((a.getD k default).byO = (b.getD k default).byO ∧ (a.getD k default).byS = (b.getD k default).byS)) : Value) from (Eq.trans (aV 36 dc) (if_pos hbp)))) dR)
 intro vals w761 ck cl
 obtain ⟨g, aW⟩ := ck
 have co := cl 37 dc
 refine yf (kv := [(0, va), (1, vb), (5, Iw k), (11, Iw k), (12, va), (13, Iw a.length), (14, .bool true), (54, .bool (((!(decide (((a.getD k default).ev) = ((b.getD k default).ev)))) || (!(((a.getD k default).void) == ((b.getD k default).void)))) || (!decide ((a.getD k default).byO = (b.getD k default).byO ∧ (a.getD k default).byS = (b.getD k default).byS))))]) ⟨rfl, rfl, rfl, rfl, rfl, rfl, rfl, (by exact co), trivial⟩ (fun ρw761 => (zf ?_))
 cases O : ((!(decide (((a.getD k default).ev) = ((b.getD k default).ev)))) || (!(((a.getD k default).void) == ((b.getD k default).void)))) || (!decide ((a.getD k default).byO = (b.getD k default).byO ∧ (a.getD k default).byS = (b.getD k default).byS))
 try simp only [zj] at O
 refine zn rfl (zv (za kr (fun _ => (st (zb (v := Iw k) rfl ?_)))))
 have cm : InR ((k + 1 : Nat) : Int) := bo
 refine st (zV (r := ((k + 1 : Nat) : Int)) (k := .i64) (a := ((k : Nat) : Int)) (b := 1) rfl rfl (by rw [show (((k : Nat) : Int) + 1 : Int) = ((k + 1 : Nat) : Int) from bo]; exact zM cm) (st (ze (v := Iw (k + 1)) rfl (zf ?_))))
 exact ⟨_, by omega, k + 1, _, rfl, zq ⟨rfl, rfl, rfl, trivial⟩, by omega, (yW hm (UW O)), aW⟩
 try simp only [zj] at O
 refine zo rfl (zd (za kr (fun _ => (st (ze (v := .bool false) rfl (zf (zt (zO Tryd.results31 (show _ = (.bool false : Value) from rfl) ?_))))))))
 refine ⟨?_, aW⟩
 rw [decide_eq_false (fun e => by subst e; first | omega | (simp at O))]
 have ak := zR ak
 refine zo rfl (zd (za kr (fun _ => (st (ze (v := .bool false) rfl (zf (zt (zO Tryd.results31 (show _ = (.bool false : Value) from rfl) ?_))))))))
 refine ⟨?_, hS0⟩
 rw [decide_eq_false (fun e => by subst e; first | omega | (simp at ak))]

theorem Qh {a b : Cel} (h1 : a.n = b.n) (h2 : a.set = b.set) : a = b := by cases a; cases b; simp_all
theorem QN {a b : Sta} (h1 : a.ver = b.ver) (h2 : a.cls = b.cls) : a = b := by cases a; cases b; simp_all
theorem WE {G : Nat → Prop} {W w : World} {Rs : List HP} {x : Sta} {dx0 : Value} (hdx0 : RdS W G dx0 x.cls) (ox : x.Ok) {y : Sta} {dy0 : Value} (hdy0 : RdS W G dy0 y.cls) (oy : y.Ok) (hS0 : Sep G W Rs w) : Ret Tryd.prog 34 [.agg (x.cells dx0).toArray, .agg (y.cells dy0).toArray] w (fun r w' => r = (.bool (decide (x = y)) : Value) ∧ Sep G W Rs w') := by
 have hdx0s : _ * 32 ≤ _ := hdx0.small
 have hdy0s : _ * 32 ≤ _ := hdy0.small
 refine zr (args := [.agg (x.cells dx0).toArray, .agg (y.cells dy0).toArray]) Tryd.func34 rfl rfl ?_
 refine zd (za kr (fun _ => (st (zT (v := .agg (x.cells dx0).toArray) rfl ?_))))
 intro w3 b2 bU
 have bV := hS0.new bU
 refine st (zT (v := .agg (y.cells dy0).toArray) rfl ?_)
 intro w7 N bW
 have O := bV.new bW
 refine st (ze (v := .bool false) rfl (zf (zd (zd (zF kr (st (ZT rfl (st (zg (v := Iv (x.ver)) Tryd.isAgg3 rfl (zh (O.blk (i := 1) rfl) rfl) (st (ZT rfl (st (zg (v := Iv (y.ver)) Tryd.isAgg3 rfl (zh (O.blk (i := 0) rfl) rfl) (st (yq (k := .i64) (a := x.ver) (b := y.ver) rfl rfl (st (zb (v := .bool (!decide (x.ver = y.ver))) rfl (stc (V := Ix b2 1) rfl rfl (fun bX => ?_) ?_))))))))))))))))))
 have aS := bX
 have aS := zC aS
 exact yF rfl ⟨rfl, rfl⟩
 refine stc (V := dx0) rfl rfl (fun aT => ?_) ?_
 have aU := aT
 have aU := zC aU
 exact zg (v := dx0) Tryd.isAgg26 (show _ = (Ix b2 1 : Value) from (if_pos aT)) (zh (O.blk (i := 1) rfl) rfl) ⟨rfl, rfl⟩
 refine stc (V := Iw x.cls.length) rfl rfl (fun aV => ?_) ?_
 have aW := aV
 have aW := zC aW
 exact zJ (n := x.cls.length) Tryd.underlying26 (show _ = (dx0 : Value) from (if_pos aV)) hdx0.sl ⟨rfl, rfl⟩
 refine stc (V := Ix N 1) rfl rfl (fun bQ => ?_) ?_
 have aX := bQ
 have aX := zC aX
 exact yF rfl ⟨rfl, rfl⟩
 refine stc (V := dy0) rfl rfl (fun aY => ?_) ?_
 have aZ := aY
 have aZ := zC aZ
 exact zg (v := dy0) Tryd.isAgg26 (show _ = (Ix N 1 : Value) from (if_pos aY)) (zh (O.blk (i := 0) rfl) rfl) ⟨rfl, rfl⟩
 refine stc (V := Iw y.cls.length) rfl rfl (fun ba => ?_) ?_
 have bb := ba
 have bb := zC bb
 exact zJ (n := y.cls.length) Tryd.underlying26 (show _ = (dy0 : Value) from (if_pos ba)) hdy0.sl ⟨rfl, rfl⟩
 refine stc (V := .bool (!decide (((x.cls.length : Nat) : Int) = ((y.cls.length : Nat) : Int)))) rfl rfl (fun ah => ?_) ?_
 have bc := ah
 have bc := zC bc
 exact yq (k := .i64) (a := ((x.cls.length : Nat) : Int)) (b := ((y.cls.length : Nat) : Int)) (show _ = (Iw x.cls.length : Value) from (if_pos ah)) (show _ = (Iw y.cls.length : Value) from (if_pos ah)) ⟨rfl, rfl⟩
 refine st (zG (b := !decide (x.ver = y.ver)) (b' := !decide (((x.cls.length : Nat) : Int) = ((y.cls.length : Nat) : Int))) rfl (fun hbp => (show _ = (.bool (!decide (((x.cls.length : Nat) : Int) = ((y.cls.length : Nat) : Int))) : Value) from (if_pos hbp))) (zf ?_))
 cases ai : (!decide (x.ver = y.ver)) || (!decide (((x.cls.length : Nat) : Int) = ((y.cls.length : Nat) : Int)))
 try simp only [zj] at ai
 refine zn rfl (zv (zd (zd (za kr (fun _ => (st (ze (v := Iv 0) rfl (zf (zw (yd (fun mq σ wq => ∃ (k : Nat) (ρ : Env), mq = x.cls.length - k ∧ σ = yh ρ [(2, Ix b2 0), (3, Ix N 0), (5, Iw k)] ∧ (k ≤ x.cls.length) ∧ (∀ i, i < k → x.cls.getD i default = y.cls.getD i default) ∧ Sep G W ((Blk N (y.cells dy0).toArray 68) :: (Blk b2 (x.cells dx0).toArray 68) :: Rs) wq) ⟨0, _, rfl, zq ⟨rfl, rfl, rfl, trivial⟩, Nat.zero_le _, (fun i h => absurd h (Nat.not_lt_zero i)), O⟩ ?_))))))))))
 rintro m25 σ26 w24 ⟨k, ρl1, rfl, rfl, hkk, hm, aj⟩
 refine zd (zd (za kr (fun _ => (st (zb (v := Iw k) rfl (st (yF rfl (st (zg (v := dx0) Tryd.isAgg26 rfl (zh (aj.blk (i := 1) rfl) rfl) (st (zJ (n := x.cls.length) Tryd.underlying26 rfl hdx0.sl (st (zL (k := .i64) (a := ((k : Nat) : Int)) (b := ((x.cls.length : Nat) : Int)) rfl rfl (zf ?_))))))))))))))
 cases P : decide (((k : Nat) : Int) < ((x.cls.length : Nat) : Int))
 have P := fD P
 refine zn rfl (yc (zU (zd (za kr (fun _ => (st (ze (v := .bool true) rfl (zf (zt (zO Tryd.results34 (show _ = (.bool true : Value) from rfl) ?_))))))))))
 have bR := aj.s2_
 refine ⟨?_, bR⟩
 rw [decide_eq_true (QN (by omega) (Xa (by omega) (fun i hi => hm i (by omega))))]
 have P := tD P
 refine zo rfl (zv (zd (zw (zd ?_))))
 refine WD4 ((fun TT bP => WF [fun vals wq => Sep G W (bP :: TT) wq, fun vals wq => (vals 26 = (if (!decide (((x.cls.getD k default).n) = ((y.cls.getD k default).n))) = false then (.bool (decide (((x.cls.getD k default).set) = ((y.cls.getD k default).set))) : Value) else undef)) ∧ Sep G W (bP :: TT) wq]) ((Blk b2 (x.cells dx0).toArray 68) :: Rs) (Blk N (y.cells dy0).toArray 68)) (AF [Vl 0 (Ix b2 1), Vl 1 (dx0), Vl 2 (Iw k), Vl 3 (Ix (sb dx0) (so dx0 + k * 2)), Vl 4 (Ix (sb dx0) (so dx0 + k * 2)), Vl 5 (Iv ((x.cls.getD k default).n)), Vl 6 (Ix N 1), Vl 7 (dy0), Vl 8 (Iw k), Vl 9 (Ix (sb dy0) (so dy0 + k * 2)), Vl 10 (Ix (sb dy0) (so dy0 + k * 2)), Vl 11 (Iv ((y.cls.getD k default).n)), Vl 12 (.bool (!decide (((x.cls.getD k default).n) = ((y.cls.getD k default).n)))), Vl 13 (.bool (!decide (((x.cls.getD k default).n) = ((y.cls.getD k default).n)))), Vl 14 (if (!decide (((x.cls.getD k default).n) = ((y.cls.getD k default).n))) = false then Ix b2 1 else undef), Vl 15 (if (!decide (((x.cls.getD k default).n) = ((y.cls.getD k default).n))) = false then dx0 else undef), Vl 16 (if (!decide (((x.cls.getD k default).n) = ((y.cls.getD k default).n))) = false then Iw k else undef), Vl 17 (if (!decide (((x.cls.getD k default).n) = ((y.cls.getD k default).n))) = false then Ix (sb dx0) (so dx0 + k * 2) else undef), Vl 18 (if (!decide (((x.cls.getD k default).n) = ((y.cls.getD k default).n))) = false then Ix (sb dx0) (so dx0 + k * 2 + 1) else undef), Vl 19 (if (!decide (((x.cls.getD k default).n) = ((y.cls.getD k default).n))) = false then (zi W (sb dx0) (so dx0 + k * 2 + 1)) else undef), Vl 20 (if (!decide (((x.cls.getD k default).n) = ((y.cls.getD k default).n))) = false then Ix N 1 else undef), Vl 21 (if (!decide (((x.cls.getD k default).n) = ((y.cls.getD k default).n))) = false then dy0 else undef), Vl 22 (if (!decide (((x.cls.getD k default).n) = ((y.cls.getD k default).n))) = false then Iw k else undef), Vl 23 (if (!decide (((x.cls.getD k default).n) = ((y.cls.getD k default).n))) = false then Ix (sb dy0) (so dy0 + k * 2) else undef), Vl 24 (if (!decide (((x.cls.getD k default).n) = ((y.cls.getD k default).n))) = false then Ix (sb dy0) (so dy0 + k * 2 + 1) else undef), Vl 25 (if (!decide (((x.cls.getD k default).n) = ((y.cls.getD k default).n))) = false then (zi W (sb dy0) (so dy0 + k * 2 + 1)) else undef), fun _ => True, Vl 27 (if (!decide (((x.cls.getD k default).n) = ((y.cls.getD k default).n))) = false then .bool (!(decide (((x.cls.getD k default).set) = ((y.cls.getD k default).set)))) else undef), Vl 28 (.bool ((!decide (((x.cls.getD k default).n) = ((y.cls.getD k default).n))) || (!(decide (((x.cls.getD k default).set) = ((y.cls.getD k default).set))))))]) [[], [0], [], [0, 1, 2], (rg 4), (rg 5), [], [6], [], [6, 7, 8], [6, 7, 8, 9], [6, 7, 8, 9, 10], (rg 12), (rg 13), (rg 14), (rg 15), (rg 14), (rg 17), (rg 18), (rg 19), (rg 14), [0, 1, 2, 3, 4, 5, 6, 7, 8, 9, 10, 11, 12, 13, 20], (rg 14), [0, 1, 2, 3, 4, 5, 6, 7, 8, 9, 10, 11, 12, 13, 20, 21, 22], [0, 1, 2, 3, 4, 5, 6, 7, 8, 9, 10, 11, 12, 13, 20, 21, 22, 23], [0, 1, 2, 3, 4, 5, 6, 7, 8, 9, 10, 11, 12, 13, 20, 21, 22, 23, 24], (rg 26), (rg 27), (rg 28)] [26] [(0, 0), (0, 0), (0, 0), (0, 0), (0, 0), (0, 0), (0, 0), (0, 0), (0, 0), (0, 0), (0, 0), (0, 0), (0, 0), (0, 0), (0, 0), (0, 0), (0, 0), (0, 0), (0, 0), (0, 0), (0, 0), (0, 0), (0, 0), (0, 0), (0, 0), (0, 0), (0, 0), (1, 1), (1, 1)] aj ⟨?_, ?_, ?_, ?_, ?_, ?_, ?_, ?_, ?_, ?_, ?_, ?_, ?_, ?_, ?_, ?_, ?_, ?_, ?_, ?_, ?_, ?_, ?_, ?_, ?_, ?_, ?_, ?_, ?_, trivial⟩ ?_
 exact fun _ _ _ _ _ _ _ => obl rfl (yF rfl dR)
 exact ob1 0 fun _ _ (bi : Sep _ _ _ _) bj => obl rfl (zg (v := dx0) Tryd.isAgg26 (bj 0 dc) (zh (bi.blk (i := 1) rfl) rfl) dR)
 exact fun _ _ _ _ _ _ _ => obl rfl (zb (v := Iw k) rfl dR)
 refine ob1 0 fun _ _ _ ak => (obl rfl ?_)
 have bk : k < x.cls.length := bo
 exact zk (k := 2) (i := k) Tryd.underlying26 Tryd.sizeOf42 (ak 1 dc) hdx0.sl (ak 2 dc) bk dR
 exact fun _ _ _ _ _ _ bl => obl rfl (yL (bl 3 dc) dR)
 refine ob1 0 fun _ _ (bm : Sep _ _ _ _) bn => (obl rfl ?_)
 have Q : k < x.cls.length := bo
 obtain ⟨ab, J, aM⟩ := hdx0.cel Q
 rw [← zm default Q] at ab J aM
 have hsm366 : ((x.cls.getD k default).set).length * 8 ≤ 140737488355328 := J.small
 have be := bm.cells ab (hdx0.foot (ne_of_lt Q))
 exact zg (v := Iv ((x.cls.getD k default).n)) Tryd.isAgg3 (bn 4 dc) (be.get (j := 0) rfl) dR
 exact fun _ _ _ _ _ _ _ => obl rfl (yF rfl dR)
 exact ob1 0 fun _ _ (bp : Sep _ _ _ _) bq => obl rfl (zg (v := dy0) Tryd.isAgg26 (bq 6 dc) (zh (bp.blk (i := 0) rfl) rfl) dR)
 exact fun _ _ _ _ _ _ _ => obl rfl (zb (v := Iw k) rfl dR)
 refine ob1 0 fun _ _ _ al => (obl rfl ?_)
 have br : k < y.cls.length := bo
 exact zk (k := 2) (i := k) Tryd.underlying26 Tryd.sizeOf42 (al 7 dc) hdy0.sl (al 8 dc) br dR
 exact fun _ _ _ _ _ _ bs => obl rfl (yL (bs 9 dc) dR)
 refine ob1 0 fun _ _ (bt : Sep _ _ _ _) bu => (obl rfl ?_)
 have R : k < y.cls.length := bo
 obtain ⟨ac, K, aN⟩ := hdy0.cel R
 rw [← zm default R] at ac K aN
 have hsm415 : ((y.cls.getD k default).set).length * 8 ≤ 140737488355328 := K.small
 have bf := bt.cells ac (hdy0.foot (ne_of_lt R))
 exact zg (v := Iv ((y.cls.getD k default).n)) Tryd.isAgg3 (bu 10 dc) (bf.get (j := 0) rfl) dR
 exact ob1 0 fun _ _ _ am => obl rfl (yq (k := .i64) (a := (x.cls.getD k default).n) (b := (y.cls.getD k default).n) (am 5 dc) (am 11 dc) dR)
 exact fun _ _ _ _ _ _ bv => obl rfl (zb (v := .bool (!decide (((x.cls.getD k default).n) = ((y.cls.getD k default).n)))) (bv 12 dc) dR)
 refine fun _ _ _ _ _ _ bw => (zN rfl rfl (bw 13 dc) (fun D => ?_) (fun D => fun c d _ => ⟨trivial, d.trans (if_neg D).symm⟩))
 have an := D
 have an := zC an
 exact yF rfl (fun c d _ => ⟨rfl, d.trans (if_pos D).symm⟩)
 refine ob1 0 fun _ _ (bx : Sep _ _ _ _) ao => (zN rfl rfl (ao 13 dc) (fun q => ?_) (fun q => fun c d _ => ⟨trivial, d.trans (if_neg q).symm⟩))
 have ap := q
 have ap := zC ap
 exact zg (v := dx0) Tryd.isAgg26 (show _ = (Ix b2 1 : Value) from (Eq.trans (ao 14 dc) (if_pos q))) (zh (bx.blk (i := 1) rfl) rfl) (fun c d _ => ⟨rfl, d.trans (if_pos q).symm⟩)
 refine fun _ _ _ _ _ _ bz => (zN rfl rfl (bz 13 dc) (fun E => ?_) (fun E => fun c d _ => ⟨trivial, d.trans (if_neg E).symm⟩))
 have aq := E
 have aq := zC aq
 exact zb (v := Iw k) rfl (fun c d _ => ⟨rfl, d.trans (if_pos E).symm⟩)
 refine ob1 0 fun _ _ _ S => (zN rfl rfl (S 13 dc) (fun g => ?_) (fun g => fun c d _ => ⟨trivial, d.trans (if_neg g).symm⟩))
 have ar := g
 have ar := zC ar
 have bA : k < x.cls.length := bo
 exact zk (k := 2) (i := k) Tryd.underlying26 Tryd.sizeOf42 (show _ = (dx0 : Value) from (Eq.trans (S 15 dc) (if_pos g))) hdx0.sl (show _ = (Iw k : Value) from (Eq.trans (S 16 dc) (if_pos g))) bA (fun c d _ => ⟨rfl, d.trans (if_pos g).symm⟩)
 refine fun _ _ _ _ _ _ au => (zN rfl rfl (au 13 dc) (fun s => ?_) (fun s => fun c d _ => ⟨trivial, d.trans (if_neg s).symm⟩))
 have av := s
 have av := zC av
 exact yN (show _ = (Ix (sb dx0) (so dx0 + k * 2) : Value) from (Eq.trans (au 17 dc) (if_pos s))) (fun c d _ => ⟨rfl, d.trans (if_pos s).symm⟩)
 refine ob1 0 fun _ _ (bB : Sep _ _ _ _) aw => (zN rfl rfl (aw 13 dc) (fun t => ?_) (fun t => fun c d _ => ⟨trivial, d.trans (if_neg t).symm⟩))
 have ax := t
 have ax := zC ax
 have T : k < x.cls.length := bo
 obtain ⟨ad, L, aO⟩ := hdx0.cel T
 rw [← zm default T] at ad L aO
 have hsm498 : ((x.cls.getD k default).set).length * 8 ≤ 140737488355328 := L.small
 have bg := bB.cells ad (hdx0.foot (ne_of_lt T))
 exact zg (v := (zi W (sb dx0) (so dx0 + k * 2 + 1))) Tryd.isAgg40 (show _ = (Ix (sb dx0) (so dx0 + k * 2 + 1) : Value) from (Eq.trans (aw 18 dc) (if_pos t))) (bg.get (j := 1) rfl) (fun c d _ => ⟨rfl, d.trans (if_pos t).symm⟩)
 refine fun _ _ _ _ _ _ bC => (zN rfl rfl (bC 13 dc) (fun F => ?_) (fun F => fun c d _ => ⟨trivial, d.trans (if_neg F).symm⟩))
 have ay := F
 have ay := zC ay
 exact yF rfl (fun c d _ => ⟨rfl, d.trans (if_pos F).symm⟩)
 refine ob1 0 fun _ _ (bD : Sep _ _ _ _) az => (zN rfl rfl (az 13 dc) (fun u => ?_) (fun u => fun c d _ => ⟨trivial, d.trans (if_neg u).symm⟩))
 have aA := u
 have aA := zC aA
 exact zg (v := dy0) Tryd.isAgg26 (show _ = (Ix N 1 : Value) from (Eq.trans (az 20 dc) (if_pos u))) (zh (bD.blk (i := 0) rfl) rfl) (fun c d _ => ⟨rfl, d.trans (if_pos u).symm⟩)
 refine fun _ _ _ _ _ _ bE => (zN rfl rfl (bE 13 dc) (fun H => ?_) (fun H => fun c d _ => ⟨trivial, d.trans (if_neg H).symm⟩))
 have aB := H
 have aB := zC aB
 exact zb (v := Iw k) rfl (fun c d _ => ⟨rfl, d.trans (if_pos H).symm⟩)
 refine ob1 0 fun _ _ _ U => (zN rfl rfl (U 13 dc) (fun l => ?_) (fun l => fun c d _ => ⟨trivial, d.trans (if_neg l).symm⟩))
 have aC := l
 have aC := zC aC
 have bF : k < y.cls.length := bo
 exact zk (k := 2) (i := k) Tryd.underlying26 Tryd.sizeOf42 (show _ = (dy0 : Value) from (Eq.trans (U 21 dc) (if_pos l))) hdy0.sl (show _ = (Iw k : Value) from (Eq.trans (U 22 dc) (if_pos l))) bF (fun c d _ => ⟨rfl, d.trans (if_pos l).symm⟩)
 refine fun _ _ _ _ _ _ aD => (zN rfl rfl (aD 13 dc) (fun z => ?_) (fun z => fun c d _ => ⟨trivial, d.trans (if_neg z).symm⟩))
 have aE := z
 have aE := zC aE
 exact yN (show _ = (Ix (sb dy0) (so dy0 + k * 2) : Value) from (Eq.trans (aD 23 dc) (if_pos z))) (fun c d _ => ⟨rfl, d.trans (if_pos z).symm⟩)
 refine ob1 0 fun _ _ (bG : Sep _ _ _ _) aF => (zN rfl rfl (aF 13 dc) (fun A => ?_) (fun A => fun c d _ => ⟨trivial, d.trans (if_neg A).symm⟩))
 have aG := A
 have aG := zC aG
 have X : k < y.cls.length := bo
 obtain ⟨ae, M, aP⟩ := hdy0.cel X
 rw [← zm default X] at ae M aP
 have hsm565 : ((y.cls.getD k default).set).length * 8 ≤ 140737488355328 := M.small
 have bh := bG.cells ae (hdy0.foot (ne_of_lt X))
 exact zg (v := (zi W (sb dy0) (so dy0 + k * 2 + 1))) Tryd.isAgg40 (show _ = (Ix (sb dy0) (so dy0 + k * 2 + 1) : Value) from (Eq.trans (aF 24 dc) (if_pos A))) (bh.get (j := 1) rfl) (fun c d _ => ⟨rfl, d.trans (if_pos A).symm⟩)
 refine ob1 0 fun vals bS (I : Sep _ _ _ _) Y => (zN rfl rfl (Y 13 dc) (fun m => ?_) (fun m c d bY => ?_))
 have aH := m
 have aH := zC aH
 have Z : k < x.cls.length := bo
 obtain ⟨af, o, aQ⟩ := hdx0.cel Z
 rw [← zm default Z] at af o aQ
 have hsm292 : ((x.cls.getD k default).set).length * 8 ≤ 140737488355328 := o.small
 have hcw293 := I.cells af (hdx0.foot (ne_of_lt Z))
 have aa : k < y.cls.length := bo
 obtain ⟨ag, p, aR⟩ := hdy0.cel aa
 rw [← zm default aa] at ag p aR
 have hsm296 : ((y.cls.getD k default).set).length * 8 ≤ 140737488355328 := p.small
 have hcw297 := I.cells ag (hdy0.foot (ne_of_lt aa))
 refine (zu (f := 19) (vals := [(zi W (sb dx0) (so dx0 + k * 2 + 1)), (zi W (sb dy0) (so dy0 + k * 2 + 1))]) (cap := []) rfl (yP ⟨(show _ = ((zi W (sb dx0) (so dx0 + k * 2 + 1)) : Value) from (Eq.trans (Y 19 dc) (if_pos m))), (show _ = ((zi W (sb dy0) (so dy0 + k * 2 + 1)) : Value) from (Eq.trans (Y 25 dc) (if_pos m))), trivial⟩) Tryd.call19 (YW (a := (x.cls.getD k default).set) (va := (zi W (sb dx0) (so dx0 + k * 2 + 1))) (b := (y.cls.getD k default).set) (vb := (zi W (sb dy0) (so dy0 + k * 2 + 1))) o p I) ?_)
 rintro _ w298 ⟨rfl, bH⟩
 exact fun c d bY => ⟨(And.intro (d.trans (if_pos m).symm) bH), trivial⟩
 refine ⟨?_, trivial⟩
 show (c 26 = (if (!decide (((x.cls.getD k default).n) = ((y.cls.getD k default).n))) = false then (.bool (decide (((x.cls.getD k default).set) = ((y.cls.getD k default).set))) : Value) else undef)) ∧ Sep G W ((Blk N (y.cells dy0).toArray 68) :: (Blk b2 (x.cells dx0).toArray 68) :: Rs) bS
 exact ⟨(d.trans (if_neg m).symm), I⟩
 refine ob1 1 fun _ _ bI bJ => ?_
 obtain ⟨aI, hS573⟩ := bI
 refine zN rfl rfl (bJ 13 dc) (fun B => ?_) (fun B => fun c d _ => ⟨trivial, d.trans (if_neg B).symm⟩)
 have aJ := B
 have aJ := zC aJ
 exact yt (a := decide (((x.cls.getD k default).set) = ((y.cls.getD k default).set))) (show _ = (.bool (decide (((x.cls.getD k default).set) = ((y.cls.getD k default).set))) : Value) from (Eq.trans aI (if_pos B))) (fun c d _ => ⟨rfl, d.trans (if_pos B).symm⟩)
 exact fun _ _ _ _ _ _ aK => obl rfl (zG (b := !decide (((x.cls.getD k default).n) = ((y.cls.getD k default).n))) (b' := !(decide (((x.cls.getD k default).set) = ((y.cls.getD k default).set)))) (aK 13 dc) (fun hbp => (show _ = (.bool (!(decide (((x.cls.getD k default).set) = ((y.cls.getD k default).set)))) : Value) from (Eq.trans (aK 27 dc) (if_pos hbp)))) dR)
 intro vals w585 bK bL
 obtain ⟨aI, aL⟩ := bK
 have bT := bL 28 dc
 refine yf (kv := [(2, Ix b2 0), (3, Ix N 0), (5, Iw k), (20, Iw k), (21, Ix b2 1), (22, dx0), (23, Iw x.cls.length), (24, .bool true), (55, .bool ((!decide (((x.cls.getD k default).n) = ((y.cls.getD k default).n))) || (!(decide (((x.cls.getD k default).set) = ((y.cls.getD k default).set))))))]) ⟨rfl, rfl, rfl, rfl, rfl, rfl, rfl, rfl, (by exact bT), trivial⟩ (fun ρw585 => (zf ?_))
 cases C : (!decide (((x.cls.getD k default).n) = ((y.cls.getD k default).n))) || (!(decide (((x.cls.getD k default).set) = ((y.cls.getD k default).set))))
 try simp only [zj] at C
 refine zn rfl (zv (za kr (fun _ => (st (zb (v := Iw k) rfl ?_)))))
 have bM : InR ((k + 1 : Nat) : Int) := bo
 refine st (zV (r := ((k + 1 : Nat) : Int)) (k := .i64) (a := ((k : Nat) : Int)) (b := 1) rfl rfl (by rw [show (((k : Nat) : Int) + 1 : Int) = ((k + 1 : Nat) : Int) from bo]; exact zM bM) (st (ze (v := Iw (k + 1)) rfl (zf ?_))))
 exact ⟨_, by omega, k + 1, _, rfl, zq ⟨rfl, rfl, rfl, trivial⟩, by omega, (yW hm (Qh C.1 C.2)), aL⟩
 try simp only [zj] at C
 refine zo rfl (zd (za kr (fun _ => (st (ze (v := .bool false) rfl (zf (zt (zO Tryd.results34 (show _ = (.bool false : Value) from rfl) ?_))))))))
 have bN := aL.s2_
 refine ⟨?_, bN⟩
 rw [decide_eq_false (fun e => by subst e; first | omega | (simp at C))]
 try simp only [zj] at ai
 refine zo rfl (zd (za kr (fun _ => (st (ze (v := .bool false) rfl (zf (zt (zO Tryd.results34 (show _ = (.bool false : Value) from rfl) ?_))))))))
 have bO := O.s2_
 refine ⟨?_, bO⟩
 rw [decide_eq_false (fun e => by subst e; first | omega | (simp at ai))]

theorem Vo {d : Dcl} {k : Int × Int} {L : List Ent} (h : L.length ≤ 1000000) : Sta.Ok (yb d k L) := ⟨show InR ((zZ k L : Nat) : Int) by have := YK k L; omega⟩
end Go.Proofs.YtlblilbmpdejgaaDoor
/- Types whose fields lie in rows of their own, apart from each other. -/
namespace Go.Proofs.YtlblilbmpdejgaaDoor
open Go.RowKit
structure TypS where
  v : Value
  deriving Inhabited
structure TypS.Ok (e : TypS) : Prop where
  one : e.v.oneCell' = true
def TypS.cells (e : TypS) : List Value := [e.v]
instance : Rep TypS where
  k := 1
  rd _ _ cs x := cs = x.cells ∧ x.Ok
  bytes := 24
  bpos := by decide
  kpos := by decide
  len h := by rw [h.1]; rfl
  one h := by rw [h.1]; exact ya ⟨h.2.one, trivial⟩
  mono h _ := h
instance : Flat TypS := ⟨fun h => h⟩
def FldRows (Ti : TypeId) : List TypS → List Typ → List HP
  | s :: sh, c :: l => RowE (α := Fld) own Ti s.v c.fields :: FldRows Ti sh l
  | _, _ => []
theorem FldRows.get {Ti : TypeId} : ∀ {sh : List TypS} {l : List Typ} {i : Nat}, i < sh.length → i < l.length → (FldRows Ti sh l)[i]? = some (RowE (α := Fld) own Ti (sh.getD i default).v (l.getD i default).fields)
  | _ :: _, _ :: _, 0, _, _ => rfl
  | _ :: _, _ :: _, i + 1, h1, h2 => by
    have := FldRows.get (Ti := Ti) (i := i) (by simpa using h1) (by simpa using h2)
    simpa [FldRows] using this
  | [], _, i, h, _ => absurd h (Nat.not_lt_zero i)
  | _ :: _, [], i, _, h => absurd h (Nat.not_lt_zero i)
theorem FldRows.len {Ti : TypeId} : ∀ {sh : List TypS} {l : List Typ}, sh.length = l.length → (FldRows Ti sh l).length = l.length
  | [], [], _ => rfl
  | _ :: _, _ :: _, h => by simpa [FldRows] using FldRows.len (Ti := Ti) (by simpa using h)
  | [], _ :: _, h => by simp at h
  | _ :: _, [], h => by simp at h
theorem FldRows.set {Ti : TypeId} : ∀ {sh : List TypS} {l : List Typ} (i : Nat) (c : Typ), FldRows Ti sh (l.set i c) = if i < sh.length ∧ i < l.length then (FldRows Ti sh l).set i (RowE (α := Fld) own Ti (sh.getD i default).v c.fields) else FldRows Ti sh l
  | [], [], _, _ => by simp [FldRows]
  | _ :: _, _ :: _, 0, _ => by simp [FldRows]
  | _ :: sh, _ :: l, i + 1, c => by
    simp only [List.set_cons_succ, FldRows]
    rw [FldRows.set i c]
    by_cases h : i < sh.length ∧ i < l.length
    · rw [if_pos h, if_pos (by simpa using h)]; simp
    · rw [if_neg h, if_neg (by simpa using h)]
  | [], _ :: _, i, _ => by cases i <;> simp [FldRows]
  | _ :: _, [], _, _ => by simp [FldRows]
theorem FldRows.snoc {Ti : TypeId} : ∀ {sh : List TypS} {l : List Typ} (s : TypS) (c : Typ), sh.length = l.length → FldRows Ti (sh ++ [s]) (l ++ [c]) = FldRows Ti sh l ++ [RowE (α := Fld) own Ti s.v c.fields]
  | [], [], _, _, _ => rfl
  | _ :: sh, _ :: l, s, c, h => by simp only [List.cons_append, FldRows]; rw [FldRows.snoc s c (by simpa using h)]
  | [], _ :: _, _, _, h => by simp at h
  | _ :: _, [], _, _, h => by simp at h
section
variable {G : Nat → Prop} {W w : World} {As : List HP} {T Ti : TypeId} {v : Value} {sh : List TypS} {l : List Typ}
def TypW (v : Value) (T Ti : TypeId) (l : List Typ) : HP := Ex1 fun sh : List TypS => Ug (sh.length = l.length) (Star [RowE (α := TypS) own T v sh, Star (FldRows Ti sh l)])
theorem TypW.open (h : Sep G W (TypW v T Ti l :: As) w) : ∃ sh : List TypS, sh.length = l.length ∧ Sep G W (RowE (α := TypS) own T v sh :: Star (FldRows Ti sh l) :: As) w := by
  obtain ⟨sh, h1⟩ := h.openEx
  obtain ⟨h2, h3⟩ := h1.openAnd
  exact ⟨sh, h2, h3.openStar⟩
theorem TypW.mk (h : Sep G W (RowE (α := TypS) own T v sh :: Star (FldRows Ti sh l) :: As) w) (hn : sh.length = l.length) : Sep G W (TypW v T Ti l :: As) w :=
  Sep.closeEx (A := fun sh : List TypS => Ug (sh.length = l.length) (Star [RowE (α := TypS) own T v sh, Star (FldRows Ti sh l)])) sh (Sep.closeAnd hn (Sep.closeStar (Bs := [RowE (α := TypS) own T v sh, Star (FldRows Ti sh l)]) h))
theorem TypW.rowP {f : Nat → Prop} (h : (TypW v T Ti l).p w f) : (RowE (α := Typ) own T v l).p w f := by
  obtain ⟨sh, hlen, hA⟩ := h
  obtain ⟨fs, q1, q2⟩ := hA
  obtain ⟨⟨css, hE, hown, hrow, hsm⟩, hf0⟩ := q1 0 _ rfl
  obtain ⟨hSt, hf1⟩ := q1 1 _ rfl
  have q2' := q2 0 1 (by simp) (by simp) (by simp)
  have hcl := hE.length
  refine ⟨css, EP.of_at (by omega) (fun i h1 h2 => ?_), by rw [← hlen]; exact hown, fun b hb => (hf0 b (hrow b hb)).1, by rw [← hlen]; exact hsm⟩
  have hs : i < sh.length := by omega
  have hcs : css[i] = sh[i].cells := (EP.at2 hE i h1 hs).1
  have hr : (RowE (α := Fld) own Ti (sh.getD i default).v (l.getD i default).fields).p w (fs 1) := Star.at_ hSt (FldRows.get hs h2)
  have hsoft := RowE.soft hr
  rw [zm _ hs, zm _ h2] at hsoft
  refine ⟨sh[i].v, ?_, hsoft.mono (fun b hb hlt => ⟨rfl, ⟨(hf1 b hb.1).1, fun e => q2' b (hrow b e) hb.1⟩, hb.2⟩), ⟨⟩⟩
  rw [hcs]; rfl
theorem TypW.row (h : Sep G W (TypW v T Ti l :: As) w) : Sep G W (RowE (α := Typ) own T v l :: As) w := h.impl (i := 0) rfl (fun _ => TypW.rowP)
theorem Sep.typSl (h : Sep G W As w) {i : Nat} (hi : As[i]? = some (TypW v T Ti l)) : IsSl v l.length := by
  obtain ⟨f, h1, _⟩ := h.get hi
  exact RowE.isSl (TypW.rowP h1)
theorem TypW.snoc {vf : Value} {c : Typ} (hlen : sh.length = l.length) (h : Sep G W (RowE (α := TypS) own T v (sh ++ [⟨vf⟩]) :: Star (FldRows Ti sh l) :: RowE (α := Fld) own Ti vf c.fields :: As) w) : Sep G W (TypW v T Ti (l ++ [c]) :: As) w := by
  have h1 : Sep G W (RowE (α := Fld) own Ti vf c.fields :: Star (FldRows Ti sh l) :: RowE (α := TypS) own T v (sh ++ [⟨vf⟩]) :: As) w := h.sel 3 [2, 1, 0] (Nat.le_add_left _ _) rfl rfl
  have h2 := h1.snocStar
  rw [← FldRows.snoc ⟨vf⟩ c hlen] at h2
  exact TypW.mk (h2.sel 2 [1, 0] (Nat.le_add_left _ _) rfl rfl) (by rw [List.length_append, List.length_append, hlen]; rfl)
theorem TypW.nil (h : Sep G W As w) : Sep G W (TypW (.slice none 0 0) T Ti [] :: As) w := TypW.mk (sh := []) (h.nilStar.rowNil own T) rfl
end
end Go.Proofs.YtlblilbmpdejgaaDoor
/- Steps of the proofs of this seat: part F19. -/
set_option maxRecDepth 8000
set_option maxHeartbeats 4000000
namespace Go.Proofs.YtlblilbmpdejgaaDoor
open Go.Proofs Go.RowKit

theorem Wy {G : Nat → Prop} {W w : World} {Rs : List HP} {f : Fld} {df0 : Value} (hdf0 : RdS W G df0 f.moves) (of : f.Ok) (hS0 : Sep G W Rs w) : Ret Tryd.prog 56 [.agg (f.cells df0).toArray] w (fun r w' => ∃ (v : Value), r = (.agg (f.cells v).toArray : Value) ∧ Sep G W ((RowE (α := Mv) own 115 v f.moves) :: Rs) w') := by
 have hdf0s : _ * 32 ≤ _ := hdf0.small
 refine zr (args := [.agg (f.cells df0).toArray]) Tryd.func56 rfl rfl ?_
 refine zd (za kr (fun _ => (st (zT (v := .agg (f.cells df0).toArray) rfl ?_))))
 intro w3 b2 K
 have L := hS0.new K
 refine st (zB Tryd.zeroValue79 ?_)
 intro P s M
 have N := L.new M
 refine zf (zd (za kr (fun _ => (st (ze (v := (Iz)) rfl (zf (zd (zd (za kr (fun _ => (st (ze (v := Iv 0) rfl (zf (zw ?_))))))))))))))
 have O : Sep G W ((RowE (α := Mv) own 115 (Iz) ([] : List Mv)) :: (Blk s #[Iv 0, Iv 0, .bool false, (Iz)] 79) :: (Blk b2 (f.cells df0).toArray 79) :: Rs) P := N.rowNil own 115
 refine yd (fun mq σ Q => ∃ (k : Nat) (vo : Value) (ρ : Env), mq = f.moves.length - k ∧ σ = yh ρ [(1, Ix b2 0), (2, Ix s 0), (4, Iw k), (3, vo)] ∧ (k ≤ f.moves.length) ∧ Sep G W ((RowE (α := Mv) own 115 vo (f.moves.take k)) :: (Blk s #[Iv 0, Iv 0, .bool false, (Iz)] 79) :: (Blk b2 (f.cells df0).toArray 79) :: Rs) Q) ⟨0, (Iz), _, rfl, zq ⟨rfl, rfl, rfl, rfl, trivial⟩, Nat.zero_le _, O⟩ ?_
 rintro m11 σ12 w10 ⟨k, vo, ρl1, rfl, rfl, hkk, d⟩
 have y := d.row (i := 0) rfl
 have hr14s : _ * 32 ≤ _ := y.2
 refine zd (zd (za kr (fun _ => (st (zb (v := Iw k) rfl (st (yz rfl (st (zg (v := df0) Tryd.isAgg77 rfl (zh (d.blk (i := 2) rfl) rfl) (st (zJ (n := f.moves.length) Tryd.underlying77 rfl hdf0.sl (st (zL (k := .i64) (a := ((k : Nat) : Int)) (b := ((f.moves.length : Nat) : Int)) rfl rfl (zf ?_))))))))))))))
 cases e : decide (((k : Nat) : Int) < ((f.moves.length : Nat) : Int))
 have e := fD e
 have hkn : k = f.moves.length := by omega
 rw [hkn, List.take_of_length_le (Nat.le_refl f.moves.length)] at d
 have h := d.row (i := 0) rfl
 have hr16s : _ * 32 ≤ _ := h.2
 refine zn rfl (yc (zU (zd (za kr (fun _ => (st (zb (v := vo) rfl (st (yz rfl (stn (yv (v := vo) (c := [Iv (f.kind), Iv (f.policy), .bool (f.floor), df0]) (c' := [Iv (f.kind), Iv (f.policy), .bool (f.floor), vo]) Tryd.sizeOf77 rfl rfl (d.blk (i := 2) rfl) h.1.one rfl rfl ?_)))))))))))
 intro w17 z
 have ok19 : Fld.Ok f := ⟨(show InR (f.kind) from of.kind), (show InR (f.policy) from of.policy)⟩
 have j := d.pt2 z
 refine zf (zd (za kr (fun _ => (st (zl (k := 4) Tryd.isAgg79 Tryd.sizeOf79 rfl rfl (CellsAt.all (j.blk (i := 2) rfl)) (stn (zy (v := .agg (f.cells vo).toArray) (c' := (f.cells vo).toArray) Tryd.sizeOf79 rfl rfl (j.blk (i := 1) rfl) (ya ⟨rfl, rfl, rfl, h.1.one, trivial⟩) (Nat.le_of_ble_eq_true rfl) rfl ?_)))))))
 intro w21 A
 have p := j.pt1 A
 refine zf (zt (Xt (b := s) Tryd.results56 Tryd.isAgg79 Tryd.sizeOf79 rfl rfl (CellsAt.all (p.blk (i := 1) rfl)) ?_))
 have B := p.s3_a
 refine ⟨vo, rfl, B⟩
 have e := tD e
 refine zo rfl (zv (zd (zw (za kr (fun _ => (st (zb (v := vo) rfl (st (yz rfl (st (zg (v := df0) Tryd.isAgg77 rfl (zh (d.blk (i := 2) rfl) rfl) (st (zb (v := Iw k) rfl ?_)))))))))))))
 have C : k < f.moves.length := bo
 refine st (zk (k := 4) (i := k) Tryd.underlying77 Tryd.sizeOf115 rfl hdf0.sl rfl C ?_)
 have l : k < f.moves.length := bo
 obtain ⟨o, g⟩ := hdf0.mv l
 rw [← zm default l] at o g
 have t := d.cells o (hdf0.foot (ne_of_lt l))
 refine st (zl (k := 4) Tryd.isAgg115 Tryd.sizeOf115 rfl rfl t (st (zD (k := 4) (parts' := [(0, .agg ((f.moves.getD k default).cells).toArray)]) (c := ((f.moves.getD k default).cells).toArray) Tryd.underlying77 Tryd.sizeOf115 Tryd.zeroValue115 dc rfl kr ?_)))
 intro w31 b30 D
 have q := d.new D
 have u := q.blk (i := 0) rfl
 have E := q.s4_bcd
 have F := E.emp1
 refine st (yp (src := own) (bytes := 32) (x1 := (f.moves.getD k default)) F Kh rfl rfl u (fun _ _ _ => (show _ from ⟨rfl, g⟩)) (by first | omega | (simp only [List.length_append, List.length_cons, List.length_nil, List.length_take, List.length_drop]; omega)) rfl ?_)
 intro x w33 m
 have H := m.row (i := 0) rfl
 have hr39s : _ * 32 ≤ _ := H.2
 refine st (ze (v := x) rfl (zf (za kr (fun _ => (st (zb (v := Iw k) rfl ?_))))))
 have I : InR ((k + 1 : Nat) : Int) := bo
 refine st (zV (r := ((k + 1 : Nat) : Int)) (k := .i64) (a := ((k : Nat) : Int)) (b := 1) rfl rfl (by rw [show (((k : Nat) : Int) + 1 : Int) = ((k + 1 : Nat) : Int) from bo]; exact zM I) (st (ze (v := Iw (k + 1)) rfl (zf ?_))))
 have J : (f.moves.take (k + 1)) = (f.moves.take k) ++ [(f.moves.getD k default)] := (List.take_getD om)
 rw [← J] at m
 exact ⟨_, by omega, k + 1, x, _, rfl, zq ⟨rfl, rfl, rfl, rfl, trivial⟩, by omega, m⟩

theorem Yr {G : Nat → Prop} {W w : World} {Rs : List HP} {d : Dcl} {dd0 : Value} (hdd0 : RdS W G dd0 d.types) {dd1 : Value} (hdd1 : RdS W G dd1 d.projs) (od : d.Ok) (hS0 : Sep G W Rs w) : Ret Tryd.prog 23 [.agg (d.cells dd0 dd1).toArray] w (fun r w' => ∃ (v1 : Value) (v2 : Value), r = (.agg (d.cells v1 v2).toArray : Value) ∧ Sep G W ((TypW v1 33 79 d.types) :: (RowE (α := Prj) own 107 v2 d.projs) :: Rs) w') := by
 have hdd0s : _ * 24 ≤ _ := hdd0.small
 have hdd1s : _ * 40 ≤ _ := hdd1.small
 refine zr (args := [.agg (d.cells dd0 dd1).toArray]) Tryd.func23 rfl rfl ?_
 refine zd (za kr (fun _ => (st (zT (v := .agg (d.cells dd0 dd1).toArray) rfl ?_))))
 intro w3 b2 cK
 have cL := hS0.new cK
 refine st (zB Tryd.zeroValue25 ?_)
 intro w7 C cM
 have cN := cL.new cM
 refine zf (zd (za kr (fun _ => (st (zB Tryd.zeroValue25 ?_)))))
 intro cO o cP
 have cs := cN.new cP
 refine zf (zd (zd (za kr (fun _ => (st (ze (v := Iv 0) rfl (zf (zw ?_))))))))
 have ct : Sep G W ((TypW (Iz) 33 79 []) :: (Blk o #[(Iz), (Iz)] 25) :: (Blk C #[(Iz), (Iz)] 25) :: (Blk b2 (d.cells dd0 dd1).toArray 25) :: Rs) cO := TypW.nil (T := 33) (Ti := 79) cs
 refine yd (fun mq σ t => ∃ (k : Nat) (vo : Value) (ρ : Env), mq = d.types.length - k ∧ σ = yh ρ [(1, Ix b2 0), (2, Ix C 0), (3, Ix o 0), (4, Iw k)] ∧ (k ≤ d.types.length) ∧ Sep G W ((TypW vo 33 79 (d.types.take k)) :: (Blk o #[vo, (Iz)] 25) :: (Blk C #[(Iz), (Iz)] 25) :: (Blk b2 (d.cells dd0 dd1).toArray 25) :: Rs) t) ⟨0, (Iz), _, rfl, zq ⟨rfl, rfl, rfl, rfl, trivial⟩, Nat.zero_le _, ct⟩ ?_
 rintro m15 σ16 cQ ⟨k, vo, ρl1, rfl, rfl, hkk, U⟩
 refine zd (zd (za kr (fun _ => (st (zb (v := Iw k) rfl (st (yo rfl (st (zg (v := dd0) Tryd.isAgg22 rfl (zh (U.blk (i := 3) rfl) rfl) (st (zJ (n := d.types.length) Tryd.underlying22 rfl hdd0.sl (st (zL (k := .i64) (a := ((k : Nat) : Int)) (b := ((d.types.length : Nat) : Int)) rfl rfl (zf ?_))))))))))))))
 cases V : decide (((k : Nat) : Int) < ((d.types.length : Nat) : Int))
 have V := fD V
 have hkn : k = d.types.length := by omega
 rw [hkn, List.take_of_length_le (Nat.le_refl d.types.length)] at U
 refine zn rfl (yc (zU (zd (zd (za kr (fun _ => (st (ze (v := Iv 0) rfl (zf (zw ?_))))))))))
 have cu : Sep G W ((RowE (α := Prj) own 107 (Iz) ([] : List Prj)) :: (TypW vo 33 79 d.types) :: (Blk o #[vo, (Iz)] 25) :: (Blk C #[(Iz), (Iz)] 25) :: (Blk b2 (d.cells dd0 dd1).toArray 25) :: Rs) cQ := U.rowNil own 107
 refine yd (fun mq σ t => ∃ (k : Nat) (vp : Value) (ρ : Env), mq = d.projs.length - k ∧ σ = yh ρ [(1, Ix b2 0), (2, Ix C 0), (3, Ix o 0), (7, Iw k)] ∧ (k ≤ d.projs.length) ∧ Sep G W ((RowE (α := Prj) own 107 vp (d.projs.take k)) :: (TypW vo 33 79 d.types) :: (Blk o #[vo, vp] 25) :: (Blk C #[(Iz), (Iz)] 25) :: (Blk b2 (d.cells dd0 dd1).toArray 25) :: Rs) t) ⟨0, (Iz), _, rfl, zq ⟨rfl, rfl, rfl, rfl, trivial⟩, Nat.zero_le _, cu⟩ ?_
 rintro m21 σ22 w20 ⟨k, vp, ρl2, rfl, rfl, hkk, z⟩
 have cv := z.row (i := 0) rfl
 have hr24s : _ * 40 ≤ _ := cv.2
 refine zd (zd (za kr (fun _ => (st (zb (v := Iw k) rfl (st (xS rfl (st (zg (v := dd1) Tryd.isAgg23 rfl (zh (z.blk (i := 4) rfl) rfl) (st (zJ (n := d.projs.length) Tryd.underlying23 rfl hdd1.sl (st (zL (k := .i64) (a := ((k : Nat) : Int)) (b := ((d.projs.length : Nat) : Int)) rfl rfl (zf ?_))))))))))))))
 cases X : decide (((k : Nat) : Int) < ((d.projs.length : Nat) : Int))
 have X := fD X
 have hkn : k = d.projs.length := by omega
 rw [hkn, List.take_of_length_le (Nat.le_refl d.projs.length)] at z
 have aU := z.row (i := 0) rfl
 have hr26s : _ * 40 ≤ _ := aU.2
 refine zn rfl (yc (zU (zd (za kr (fun _ => (st (zl (k := 2) Tryd.isAgg25 Tryd.sizeOf25 rfl rfl (CellsAt.all (z.blk (i := 2) rfl)) (stn (zy (v := .agg (d.cells vo vp).toArray) (c' := (d.cells vo vp).toArray) Tryd.sizeOf25 rfl rfl (z.blk (i := 3) rfl) (ya ⟨(z.typSl (i := 1) rfl).one, aU.1.one, trivial⟩) (Nat.le_of_ble_eq_true rfl) rfl ?_)))))))))
 intro cR cw
 have aV := z.pt3 cw
 refine zf (zt (Xt (b := C) Tryd.results23 Tryd.isAgg25 Tryd.sizeOf25 rfl rfl (CellsAt.all (aV.blk (i := 3) rfl)) ?_))
 have cx : Sep G W ((TypW vo 33 79 d.types) :: (RowE (α := Prj) own 107 vp d.projs) :: Rs) cR := aV.sel 5 [1, 0] (Nat.le_add_left _ _) rfl rfl
 refine ⟨vo, vp, rfl, cx⟩
 have X := tD X
 refine zo rfl (zv (zd (zw ?_)))
 refine WD4 ((fun TT P E aW => WF [fun vals t => Sep G W (P :: E :: aW :: TT) t, fun vals t => ∃ (x : Nat), (vals 7 = ((Iy x 1 1) : Value)) ∧ Sep G W ((Blk x ((d.projs.getD k default).cells).toArray 107) :: P :: E :: aW :: TT) t, fun vals t => ∃ (x : Nat) (h : Value), (vals 7 = ((Iy x 1 1) : Value)) ∧ (vals 8 = (h : Value)) ∧ Sep G W ((RowE (α := Prj) own 107 h ((d.projs.take k) ++ [(d.projs.getD k default)])) :: E :: aW :: TT) t, fun vals t => ∃ (x : Nat) (h : Value), (vals 7 = ((Iy x 1 1) : Value)) ∧ (vals 8 = (h : Value)) ∧ Sep G W ((RowE (α := Prj) own 107 h ((d.projs.take k) ++ [(d.projs.getD k default)])) :: E :: (Blk o (d.cells vo h).toArray 25) :: TT) t]) ((Blk C #[(Iz), (Iz)] 25) :: (Blk b2 (d.cells dd0 dd1).toArray 25) :: Rs) (RowE (α := Prj) own 107 vp (d.projs.take k)) (TypW vo 33 79 d.types) (Blk o #[vo, vp] 25)) (AF [Vl 0 (Ix o 1), Vl 1 (vp), Vl 2 (Ix b2 1), Vl 3 (dd1), Vl 4 (Iw k), Vl 5 (Ix (sb dd1) (so dd1 + k * 5)), Vl 6 (.agg ((d.projs.getD k default).cells).toArray), fun _ => True, fun _ => True, Vl 9 (Ix o 1), fun _ => True]) [[], [0], [], [2], [], [2, 3, 4], [2, 3, 4, 5], [2, 3, 4, 5, 6], (rg 8), (rg 9), (rg 10)] [7, 8, 10] [(0, 1), (0, 1), (0, 0), (0, 0), (0, 0), (0, 0), (0, 0), (0, 0), (1, 1), (2, 2), (2, 2)] z ⟨?_, ?_, ?_, ?_, ?_, ?_, ?_, ?_, ?_, ?_, ?_, trivial⟩ ?_
 exact fun _ _ _ _ _ _ _ => obl rfl (xS rfl dR)
 refine fun Y _ _ cy cz au av => ?_
 have hkk : Y = 0 ∨ Y = 1 := by have h1 : 0 ≤ Y := cy; have h2 : Y ≤ 1 := cz; omega
 rcases hkk with rfl | rfl
 have be : Sep _ _ _ _ := au
 exact obl rfl (zg (v := vp) Tryd.isAgg23 (av 0 dc) (zh (be.blk (i := 2) rfl) rfl) dR)
 obtain ⟨x, F, bf⟩ := au
 exact obl rfl (zg (v := vp) Tryd.isAgg23 (av 0 dc) (zh (bf.blk (i := 3) rfl) rfl) dR)
 exact fun _ _ _ _ _ _ _ => obl rfl (xS rfl dR)
 exact ob1 0 fun _ _ (bg : Sep _ _ _ _) bh => obl rfl (zg (v := dd1) Tryd.isAgg23 (bh 2 dc) (zh (bg.blk (i := 4) rfl) rfl) dR)
 exact fun _ _ _ _ _ _ _ => obl rfl (zb (v := Iw k) rfl dR)
 refine ob1 0 fun _ _ _ aw => (obl rfl ?_)
 have bi : k < d.projs.length := bo
 exact zk (k := 5) (i := k) Tryd.underlying23 Tryd.sizeOf107 (aw 3 dc) hdd1.sl (aw 4 dc) bi dR
 refine ob1 0 fun _ _ (bj : Sep _ _ _ _) bk => (obl rfl ?_)
 have Z : k < d.projs.length := bo
 obtain ⟨am, aQ⟩ := hdd1.prj Z
 rw [← zm default Z] at am aQ
 have aX := bj.cells am (hdd1.foot (ne_of_lt Z))
 exact zl (k := 5) Tryd.isAgg107 Tryd.sizeOf107 rfl (bk 5 dc) aX dR
 refine ob1 0 fun _ _ (cA : Sep _ _ _ _) cB => (obl rfl ((zD (k := 5) (parts' := [(0, .agg ((d.projs.getD k default).cells).toArray)]) (c := ((d.projs.getD k default).cells).toArray) Tryd.underlying23 Tryd.sizeOf107 Tryd.zeroValue107 dc (xF ⟨rfl, (cB 6 dc), trivial⟩) kr ?_)))
 intro w96 x cC
 have cD := cA.new cC
 exact fun A J u => ⟨(Exists.intro x (And.intro J cD)), trivial⟩
 refine ob1 1 fun _ _ bl bm => ?_
 obtain ⟨x, F, ax⟩ := bl
 refine obl rfl ?_
 have aY := ax.blk (i := 0) rfl
 have bn := ax.s6_bcdef
 have ay := bn.emp1
 have aa : k < d.projs.length := bo
 obtain ⟨an, Q⟩ := hdd1.prj aa
 rw [← zm default aa] at an Q
 have hcw115 := ay.cells an (hdd1.foot (ne_of_lt aa))
 refine (yp (src := own) (bytes := 40) (x1 := (d.projs.getD k default)) ay el23 (bm 1 (by decide)) F aY (fun _ _ _ => (show _ from ⟨rfl, Q⟩)) (by first | omega | (simp only [List.length_append, List.length_cons, List.length_nil, List.length_take, List.length_drop]; omega)) rfl ?_)
 intro h w107 az
 have bp := az.row (i := 0) rfl
 have hr116s : _ * 40 ≤ _ := bp.2
 exact fun A J u => ⟨(Exists.intro x (Exists.intro h (And.intro ((u 7 dc).trans F) (And.intro J az)))), trivial⟩
 exact fun _ _ _ _ _ _ _ => obl rfl (xS rfl dR)
 refine ob1 2 fun _ _ bq br => ?_
 obtain ⟨x, h, F, ab, ac⟩ := bq
 refine obl rfl ?_
 have aA := ac.row (i := 0) rfl
 have hr134s : _ * 40 ≤ _ := aA.2
 refine (yv (v := h) (c := [vo, vp]) (c' := [vo, h]) Tryd.sizeOf23 (br 9 dc) ab (ac.blk (i := 2) rfl) aA.1.one rfl rfl ?_)
 intro w132 bs
 have bt := ac.pt2 bs
 exact fun A J u => ⟨(Exists.intro x (Exists.intro h (And.intro ((u 7 dc).trans F) (And.intro ((u 8 dc).trans ab) bt)))), trivial⟩
 intro vals w199 bu hA201
 obtain ⟨x, h, F, ab, aB⟩ := bu
 refine yf (kv := [(1, Ix b2 0), (2, Ix C 0), (3, Ix o 0), (7, Iw k), (48, Iw k), (49, Ix b2 1), (50, dd1), (51, Iw d.projs.length), (52, .bool true)]) ⟨rfl, rfl, rfl, rfl, rfl, rfl, rfl, rfl, rfl, trivial⟩ (fun ρw199 => (zf (za kr (fun _ => (st (zb (v := Iw k) rfl ?_))))))
 have bv : InR ((k + 1 : Nat) : Int) := bo
 refine st (zV (r := ((k + 1 : Nat) : Int)) (k := .i64) (a := ((k : Nat) : Int)) (b := 1) rfl rfl (by rw [show (((k : Nat) : Int) + 1 : Int) = ((k + 1 : Nat) : Int) from bo]; exact zM bv) (st (ze (v := Iw (k + 1)) rfl (zf ?_))))
 have bw : (d.projs.take (k + 1)) = (d.projs.take k) ++ [(d.projs.getD k default)] := (List.take_getD om)
 rw [← bw] at aB
 exact ⟨_, by omega, k + 1, h, _, rfl, zq ⟨rfl, rfl, rfl, rfl, trivial⟩, by omega, aB⟩
 have V := tD V
 refine zo rfl (zv (zd (zw (zd (za kr (fun _ => ?_))))))
 have ok205 : Typ.Ok (⟨[]⟩ : Typ) := ⟨⟩
 refine st (zQ (parts' := []) (v := .agg ((⟨[]⟩ : Typ).cells (Iz)).toArray) rfl (by simp [Instr.build, Instr.fill, Ev.cells, go_sem, Mv.cells, Fld.cells, Typ.cells, Prj.cells, Dcl.cells, Cel.cells, AskR.cells, Ask.cells, CelS.cells, Ev.cells, Ent.cells, Sta.cells]) (st (zB Tryd.zeroValue33 ?_)))
 intro w208 y bx
 have aC := U.new bx
 refine stn (zy (v := .agg ((⟨[]⟩ : Typ).cells (Iz)).toArray) (c' := ((⟨[]⟩ : Typ).cells (Iz)).toArray) Tryd.sizeOf33 rfl rfl (aC.blk (i := 0) rfl) (ya ⟨rfl, trivial⟩) (Nat.le_of_ble_eq_true rfl) rfl ?_)
 intro cE bz
 have bA := aC.pt0 bz
 refine zf (zd (zd (za kr (fun _ => (st (ze (v := Iv 0) rfl (zf (zw ?_))))))))
 have bB : Sep G W ((RowE (α := Fld) own 79 (Iz) ([] : List Fld)) :: (Blk y ((⟨[]⟩ : Typ).cells (Iz)).toArray 33) :: (TypW vo 33 79 (d.types.take k)) :: (Blk o #[vo, (Iz)] 25) :: (Blk C #[(Iz), (Iz)] 25) :: (Blk b2 (d.cells dd0 dd1).toArray 25) :: Rs) cE := bA.rowNil own 79
 refine yd (fun mq σ t => ∃ (q : Nat) (vq : Value) (ρ : Env), mq = ((d.types.getD k default).fields).length - q ∧ σ = yh ρ [(1, Ix b2 0), (2, Ix C 0), (3, Ix o 0), (4, Iw k), (5, Ix y 0), (6, Iw q)] ∧ (q ≤ ((d.types.getD k default).fields).length) ∧ Sep G W ((RowE (α := Fld) own 79 vq (((d.types.getD k default).fields).take q)) :: (Blk y #[vq] 33) :: (TypW vo 33 79 (d.types.take k)) :: (Blk o #[vo, (Iz)] 25) :: (Blk C #[(Iz), (Iz)] 25) :: (Blk b2 (d.cells dd0 dd1).toArray 25) :: Rs) t) ⟨0, (Iz), _, rfl, zq ⟨rfl, rfl, rfl, rfl, rfl, rfl, trivial⟩, Nat.zero_le _, bB⟩ ?_
 rintro m215 σ216 w214 ⟨q, vq, ρl3, rfl, rfl, hkq, p⟩
 have bC := p.row (i := 0) rfl
 have hr218s : _ * 48 ≤ _ := bC.2
 refine zd (zd (za kr (fun _ => (st (zb (v := Iw q) rfl (st (yo rfl (st (zg (v := dd0) Tryd.isAgg22 rfl (zh (p.blk (i := 5) rfl) rfl) (st (zb (v := Iw k) rfl ?_)))))))))))
 have bD : k < d.types.length := bo
 refine st (zk (k := 1) (i := k) Tryd.underlying22 Tryd.sizeOf33 rfl hdd0.sl rfl bD (st (yA rfl ?_)))
 have H : k < d.types.length := bo
 obtain ⟨K, g, aR⟩ := hdd0.typ H
 rw [← zm default H] at K g aR
 have hsm222 : ((d.types.getD k default).fields).length * 48 ≤ 140737488355328 := g.small
 have aZ := p.cells K (hdd0.foot (ne_of_lt H))
 refine st (zg (v := (zi W (sb dd0) (so dd0 + k * 1 + 0))) Tryd.isAgg31 rfl (aZ.get (j := 0) rfl) (st (zJ (n := ((d.types.getD k default).fields).length) Tryd.underlying31 rfl g.sl (st (zL (k := .i64) (a := ((q : Nat) : Int)) (b := ((((d.types.getD k default).fields).length : Nat) : Int)) rfl rfl (zf ?_))))))
 cases I : decide (((q : Nat) : Int) < ((((d.types.getD k default).fields).length : Nat) : Int))
 have I := fD I
 have hkn : q = ((d.types.getD k default).fields).length := by omega
 rw [hkn, List.take_of_length_le (Nat.le_refl ((d.types.getD k default).fields).length)] at p
 have aD := p.row (i := 0) rfl
 have hr225s : _ * 48 ≤ _ := aD.2
 refine zn rfl (yc (zU (za kr (fun _ => (st (yo rfl (st (zg (v := vo) Tryd.isAgg22 rfl (zh (p.blk (i := 3) rfl) rfl) ?_))))))))
 have ok226 : Typ.Ok (d.types.getD k default) := ⟨⟩
 refine st (zl (k := 1) Tryd.isAgg33 Tryd.sizeOf33 rfl rfl (CellsAt.all (p.blk (i := 1) rfl)) (st (zD (k := 1) (parts' := [(0, .agg ((d.types.getD k default).cells vq).toArray)]) (c := ((d.types.getD k default).cells vq).toArray) Tryd.underlying22 Tryd.sizeOf33 Tryd.zeroValue33 dc rfl kr ?_)))
 intro cF cG bE
 have bF := p.new bE
 have bG := bF.mv3
 obtain ⟨aE, ao, bH⟩ := TypW.open bG
 have L : Sep G W ((RowE (α := TypS) own 33 vo aE) :: (Star (FldRows 79 aE (d.types.take k))) :: (Blk cG ((d.types.getD k default).cells vq).toArray 33) :: (RowE (α := Fld) own 79 vq ((d.types.getD k default).fields)) :: (Blk y #[vq] 33) :: (Blk o #[vo, (Iz)] 25) :: (Blk C #[(Iz), (Iz)] 25) :: (Blk b2 (d.cells dd0 dd1).toArray 25) :: Rs) cF := bH
 have bI := L.row (i := 0) rfl
 have hr235s : _ * 24 ≤ _ := bI.2
 have aS := ao
 rw [List.length_take] at aS
 have ba := L.blk (i := 2) rfl
 have bJ := L.s8_abdefgh
 have bK := bJ.emp1
 refine st (yp (src := own) (bytes := 24) (x1 := (⟨vq⟩ : TypS)) bK el22 rfl rfl ba (fun _ _ _ => (show _ from ⟨rfl, ⟨aD.1.one⟩⟩)) (by first | omega | (simp only [List.length_append, List.length_cons, List.length_nil, List.length_take, List.length_drop]; omega)) rfl ?_)
 intro ad cH aF
 have bL := aF.row (i := 0) rfl
 have hr242s : _ * 24 ≤ _ := bL.2
 have ae : Sep G W ((TypW ad 33 79 ((d.types.take k) ++ [(d.types.getD k default)])) :: (Blk y #[vq] 33) :: (Blk o #[vo, (Iz)] 25) :: (Blk C #[(Iz), (Iz)] 25) :: (Blk b2 (d.cells dd0 dd1).toArray 25) :: Rs) cH := TypW.snoc (c := (d.types.getD k default)) ao aF
 refine st (yo rfl (stn (yv (v := ad) (c := [vo, (Iz)]) (c' := [ad, (Iz)]) Tryd.sizeOf22 rfl rfl (ae.blk (i := 2) rfl) (ae.typSl (i := 0) rfl).one rfl rfl ?_)))
 intro w244 bM
 have bN := ae.pt2 bM
 refine zf (za kr (fun _ => (st (zb (v := Iw k) rfl ?_))))
 have bO : InR ((k + 1 : Nat) : Int) := bo
 refine st (zV (r := ((k + 1 : Nat) : Int)) (k := .i64) (a := ((k : Nat) : Int)) (b := 1) rfl rfl (by rw [show (((k : Nat) : Int) + 1 : Int) = ((k + 1 : Nat) : Int) from bo]; exact zM bO) (st (ze (v := Iw (k + 1)) rfl (zf ?_))))
 have aG := bN.s5_acde
 have bP : d.types.take (k + 1) = ((d.types.take k) ++ [(d.types.getD k default)]) := (List.take_getD om)
 rw [← bP] at aG
 exact ⟨_, by omega, k + 1, ad, _, rfl, zq ⟨rfl, rfl, rfl, rfl, trivial⟩, by omega, aG⟩
 have I := tD I
 refine zo rfl (zv (zd (zw ?_)))
 refine WD4 ((fun TT P E => WF [fun vals t => Sep G W (P :: E :: TT) t, fun vals t => ∃ (e : Value), (vals 11 = (.agg ((((d.types.getD k default).fields).getD q default).cells e).toArray : Value)) ∧ Sep G W ((RowE (α := Mv) own 115 e ((((d.types.getD k default).fields).getD q default).moves)) :: P :: E :: TT) t, fun vals t => ∃ (e : Value) (l : Nat), (vals 11 = (.agg ((((d.types.getD k default).fields).getD q default).cells e).toArray : Value)) ∧ (vals 12 = ((Iy l 1 1) : Value)) ∧ Sep G W ((Blk l ((((d.types.getD k default).fields).getD q default).cells e).toArray 79) :: (RowE (α := Mv) own 115 e ((((d.types.getD k default).fields).getD q default).moves)) :: P :: E :: TT) t, fun vals t => ∃ (e : Value) (l : Nat) (m : Value), (vals 11 = (.agg ((((d.types.getD k default).fields).getD q default).cells e).toArray : Value)) ∧ (vals 12 = ((Iy l 1 1) : Value)) ∧ (vals 13 = (m : Value)) ∧ Sep G W ((RowE (α := Fld) own 79 m ((((d.types.getD k default).fields).take q) ++ [(((d.types.getD k default).fields).getD q default)])) :: E :: TT) t, fun vals t => ∃ (e : Value) (l : Nat) (m : Value), (vals 11 = (.agg ((((d.types.getD k default).fields).getD q default).cells e).toArray : Value)) ∧ (vals 12 = ((Iy l 1 1) : Value)) ∧ (vals 13 = (m : Value)) ∧ Sep G W ((RowE (α := Fld) own 79 m ((((d.types.getD k default).fields).take q) ++ [(((d.types.getD k default).fields).getD q default)])) :: (Blk y #[m] 33) :: TT) t]) ((TypW vo 33 79 (d.types.take k)) :: (Blk o #[vo, (Iz)] 25) :: (Blk C #[(Iz), (Iz)] 25) :: (Blk b2 (d.cells dd0 dd1).toArray 25) :: Rs) (RowE (α := Fld) own 79 vq (((d.types.getD k default).fields).take q)) (Blk y #[vq] 33)) (AF [Vl 0 (Ix y 0), Vl 1 (vq), Vl 2 (Ix b2 0), Vl 3 (dd0), Vl 4 (Iw k), Vl 5 (Ix (sb dd0) (so dd0 + k * 1)), Vl 6 (Ix (sb dd0) (so dd0 + k * 1)), Vl 7 ((zi W (sb dd0) (so dd0 + k * 1 + 0))), Vl 8 (Iw q), Vl 9 (Ix (sb (zi W (sb dd0) (so dd0 + k * 1 + 0))) (so (zi W (sb dd0) (so dd0 + k * 1 + 0)) + q * 4)), Vl 10 (.agg ((((d.types.getD k default).fields).getD q default).cells (zi W (sb (zi W (sb dd0) (so dd0 + k * 1 + 0))) (so (zi W (sb dd0) (so dd0 + k * 1 + 0)) + q * 4 + 3))).toArray), fun _ => True, fun _ => True, fun _ => True, Vl 14 (Ix y 0), fun _ => True]) [[], [0], [], [2], [], [2, 3, 4], [2, 3, 4, 5], [2, 3, 4, 5, 6], [], [2, 3, 4, 5, 6, 7, 8], [2, 3, 4, 5, 6, 7, 8, 9], [2, 3, 4, 5, 6, 7, 8, 9, 10], [2, 3, 4, 5, 6, 7, 8, 9, 10, 11], (rg 13), (rg 14), (rg 15)] [11, 12, 13, 15] [(0, 2), (0, 2), (0, 0), (0, 0), (0, 0), (0, 0), (0, 0), (0, 0), (0, 0), (0, 0), (0, 0), (0, 0), (1, 1), (2, 2), (3, 3), (3, 3)] p ⟨?_, ?_, ?_, ?_, ?_, ?_, ?_, ?_, ?_, ?_, ?_, ?_, ?_, ?_, ?_, ?_, trivial⟩ ?_
 exact fun _ _ _ _ _ _ _ => obl rfl (yA rfl dR)
 refine fun M _ _ cI cJ af ag => ?_
 have hkk : M = 0 ∨ M = 1 ∨ M = 2 := by have h1 : 0 ≤ M := cI; have h2 : M ≤ 2 := cJ; omega
 rcases hkk with rfl | rfl | rfl
 have bQ : Sep _ _ _ _ := af
 exact obl rfl (zg (v := vq) Tryd.isAgg31 (ag 0 dc) (zh (bQ.blk (i := 1) rfl) rfl) dR)
 obtain ⟨e, s, bR⟩ := af
 exact obl rfl (zg (v := vq) Tryd.isAgg31 (ag 0 dc) (zh (bR.blk (i := 2) rfl) rfl) dR)
 obtain ⟨e, l, s, B, bS⟩ := af
 exact obl rfl (zg (v := vq) Tryd.isAgg31 (ag 0 dc) (zh (bS.blk (i := 3) rfl) rfl) dR)
 exact fun _ _ _ _ _ _ _ => obl rfl (yo rfl dR)
 exact ob1 0 fun _ _ (bT : Sep _ _ _ _) bU => obl rfl (zg (v := dd0) Tryd.isAgg22 (bU 2 dc) (zh (bT.blk (i := 5) rfl) rfl) dR)
 exact fun _ _ _ _ _ _ _ => obl rfl (zb (v := Iw k) rfl dR)
 refine ob1 0 fun _ _ _ aH => (obl rfl ?_)
 have bV : k < d.types.length := bo
 exact zk (k := 1) (i := k) Tryd.underlying22 Tryd.sizeOf33 (aH 3 dc) hdd0.sl (aH 4 dc) bV dR
 exact fun _ _ _ _ _ _ bW => obl rfl (yA (bW 5 dc) dR)
 refine ob1 0 fun _ _ (bX : Sep _ _ _ _) bY => (obl rfl ?_)
 have bb := bX.cells K (hdd0.foot (ne_of_lt H))
 exact zg (v := (zi W (sb dd0) (so dd0 + k * 1 + 0))) Tryd.isAgg31 (bY 6 dc) (bb.get (j := 0) rfl) dR
 exact fun _ _ _ _ _ _ _ => obl rfl (zb (v := Iw q) rfl dR)
 refine ob1 0 fun _ _ _ aI => (obl rfl ?_)
 have bZ : q < ((d.types.getD k default).fields).length := bo
 exact zk (k := 4) (i := q) Tryd.underlying31 Tryd.sizeOf79 (aI 7 dc) g.sl (aI 8 dc) bZ dR
 refine ob1 0 fun _ _ (ca : Sep _ _ _ _) cb => (obl rfl ?_)
 have ah : q < ((d.types.getD k default).fields).length := bo
 obtain ⟨ap, N, aT⟩ := g.fld ah
 rw [← zm default ah] at ap N aT
 have hsm496 : ((((d.types.getD k default).fields).getD q default).moves).length * 32 ≤ 140737488355328 := N.small
 have bc := ca.cells ap (g.foot (ne_of_lt ah))
 exact zl (k := 4) Tryd.isAgg79 Tryd.sizeOf79 rfl (cb 9 dc) bc dR
 refine ob1 0 fun vals _ (aJ : Sep _ _ _ _) cc => (obl rfl ?_)
 have ai : q < ((d.types.getD k default).fields).length := bo
 obtain ⟨aq, D, R⟩ := g.fld ai
 rw [← zm default ai] at aq D R
 have hsm349 : ((((d.types.getD k default).fields).getD q default).moves).length * 32 ≤ 140737488355328 := D.small
 have hcw350 := aJ.cells aq (g.foot (ne_of_lt ai))
 refine (zu (f := 56) (vals := [.agg ((((d.types.getD k default).fields).getD q default).cells (zi W (sb (zi W (sb dd0) (so dd0 + k * 1 + 0))) (so (zi W (sb dd0) (so dd0 + k * 1 + 0)) + q * 4 + 3))).toArray]) (cap := []) rfl (yP ⟨(cc 10 dc), trivial⟩) Tryd.call56 (Wy (f := (((d.types.getD k default).fields).getD q default)) D R aJ) ?_)
 rintro _ w352 ⟨e, rfl, aK⟩
 have cd := aK.row (i := 0) rfl
 have hr354s : _ * 32 ≤ _ := cd.2
 exact fun A J u => ⟨(Exists.intro e (And.intro J aK)), trivial⟩
 refine ob1 1 fun _ _ ce _ => ?_
 obtain ⟨e, s, cf⟩ := ce
 refine obl rfl ((zD (k := 4) (parts' := [(0, .agg ((((d.types.getD k default).fields).getD q default).cells e).toArray)]) (c := ((((d.types.getD k default).fields).getD q default).cells e).toArray) Tryd.underlying31 Tryd.sizeOf79 Tryd.zeroValue79 dc (xF ⟨rfl, s, trivial⟩) kr ?_))
 intro w365 l cg
 have ch := cf.new cg
 exact fun A J u => ⟨(Exists.intro e (Exists.intro l (And.intro ((u 11 dc).trans s) (And.intro J ch)))), trivial⟩
 refine ob1 2 fun _ _ ci cj => ?_
 obtain ⟨e, l, s, B, aL⟩ := ci
 refine obl rfl ?_
 have bd := aL.blk (i := 0) rfl
 have aM := aL.s8_cbdefgh
 have aj : q < ((d.types.getD k default).fields).length := bo
 obtain ⟨ar, O, S⟩ := g.fld aj
 rw [← zm default aj] at ar O S
 have hsm383 : ((((d.types.getD k default).fields).getD q default).moves).length * 32 ≤ 140737488355328 := O.small
 have hcw384 := aM.cells ar (g.foot (ne_of_lt aj))
 refine (yp (src := own) (bytes := 48) (x1 := (((d.types.getD k default).fields).getD q default)) aM el31 (cj 1 (by decide)) B bd (fun _ _ hN => ⟨_, rfl, RowE.soft hN, S⟩) (by first | omega | (simp only [List.length_append, List.length_cons, List.length_nil, List.length_take, List.length_drop]; omega)) rfl ?_)
 intro m w376 aN
 have ck := aN.row (i := 0) rfl
 have hr385s : _ * 48 ≤ _ := ck.2
 exact fun A J u => ⟨(Exists.intro e (Exists.intro l (Exists.intro m (And.intro ((u 11 dc).trans s) (And.intro ((u 12 dc).trans B) (And.intro J aN)))))), trivial⟩
 exact fun _ _ _ _ _ _ _ => obl rfl (yA rfl dR)
 refine ob1 3 fun _ _ cl cm => ?_
 obtain ⟨e, l, m, s, B, ak, al⟩ := cl
 refine obl rfl ?_
 have aO := al.row (i := 0) rfl
 have hr403s : _ * 48 ≤ _ := aO.2
 refine (yv (v := m) (c := [vq]) (c' := [m]) Tryd.sizeOf31 (cm 14 dc) ak (al.blk (i := 1) rfl) aO.1.one rfl rfl ?_)
 intro w401 cn
 have co := al.pt1 cn
 exact fun A J u => ⟨(Exists.intro e (Exists.intro l (Exists.intro m (And.intro ((u 11 dc).trans s) (And.intro ((u 12 dc).trans B) (And.intro ((u 13 dc).trans ak) co)))))), trivial⟩
 intro vals w504 cp hA506
 obtain ⟨e, l, m, s, B, ak, aP⟩ := cp
 refine yf (kv := [(1, Ix b2 0), (2, Ix C 0), (3, Ix o 0), (4, Iw k), (5, Ix y 0), (6, Iw q), (16, Iw q), (17, Ix b2 0), (18, dd0), (19, Iw k), (20, Ix (sb dd0) (so dd0 + k * 1)), (21, Ix (sb dd0) (so dd0 + k * 1)), (22, (zi W (sb dd0) (so dd0 + k * 1 + 0))), (23, Iw (((d.types.getD k default).fields).length)), (24, .bool true)]) ⟨rfl, rfl, rfl, rfl, rfl, rfl, rfl, rfl, rfl, rfl, rfl, rfl, rfl, rfl, rfl, trivial⟩ (fun ρw504 => (zf (za kr (fun _ => (st (zb (v := Iw q) rfl ?_))))))
 have cq : InR ((q + 1 : Nat) : Int) := bo
 refine st (zV (r := ((q + 1 : Nat) : Int)) (k := .i64) (a := ((q : Nat) : Int)) (b := 1) rfl rfl (by rw [show (((q : Nat) : Int) + 1 : Int) = ((q + 1 : Nat) : Int) from bo]; exact zM cq) (st (ze (v := Iw (q + 1)) rfl (zf ?_))))
 have cr : (((d.types.getD k default).fields).take (q + 1)) = (((d.types.getD k default).fields).take q) ++ [(((d.types.getD k default).fields).getD q default)] := (List.take_getD om)
 rw [← cr] at aP
 exact ⟨_, by omega, q + 1, m, _, rfl, zq ⟨rfl, rfl, rfl, rfl, rfl, rfl, trivial⟩, by omega, aP⟩

end Go.Proofs.YtlblilbmpdejgaaDoor
/- Memory that is written over: of a set of blocks it is known that numbers are numbers still, and that what is no number is as it was (but for the cells of X). -/
namespace Go.Proofs.YtlblilbmpdejgaaDoor
open Go.RowKit
def MildV (a b : Value) : Prop := b = a ∨ ∃ m n : Int, a = .int .i64 m ∧ b = .int .i64 n ∧ InR n
def ML (w0 : World) (f0 : Nat → Prop) (X : Nat → Nat → Prop) : HP :=
  ⟨fun w f => ∀ b, f0 b → f b ∧ Soft w b ∧ ∀ o v, w0.cell? ⟨b, o, none⟩ = some v → ∃ v', w.cell? ⟨b, o, none⟩ = some v' ∧ (X b o ∨ MildV v v'), by
    intro w w' f f' h hf b hb
    obtain ⟨h1, h2, h3⟩ := h b hb
    have hlt : b < w.heap.size := by obtain ⟨c, T, hc⟩ := h2; exact xn hc
    have e := hf b h1 hlt
    refine ⟨e.2, h2.keep e.1, fun o v hv => ?_⟩
    rw [Zf e.1]; exact h3 o v hv⟩
def noX : Nat → Nat → Prop := fun _ _ => False
theorem IsSl.num {v : Value} {n : Nat} (h : IsSl v n) (m : Int) : v ≠ .int .i64 m := by obtain ⟨a, cap, rfl, _⟩ := h; intro e; cases e
section
variable {α : Type} [Rep α] {G : Nat → Prop} {W w w0 : World} {As : List HP} {T : TypeId} {v : Value} {l : List α} {f0 : Nat → Prop} {X : Nat → Nat → Prop}
theorem Sep.toML (h : Sep G W (RowE own T v l :: As) w) : ∃ f0, RdS w f0 v l ∧ Sep G W (ML w f0 noX :: As) w := by
  obtain ⟨f, hA, hl, hT⟩ := h.take (i := 0) rfl
  exact ⟨fun b => f b ∧ Soft w b, RowE.soft hA, hT w _ f (Chg.refl _ _) (fun b hb => ⟨hb.1, hb.2, fun o v hv => ⟨v, hv, .inr (.inl rfl)⟩⟩) (fun _ h => .inl h)⟩
theorem Sep.mlHead {i b o j : Nat} {cs : List Value} {u : Value} (h : Sep G W As w) (hi : As[i]? = some (ML w0 f0 X)) (hb : f0 b) (hc : CellsAt w0 b o cs) (hj : cs[j]? = some u) (hX : ¬ X b (o + j)) (hn : ∀ m, u ≠ .int .i64 m) : w.cell? ⟨b, o + j, none⟩ = some u := by
  obtain ⟨f, hA, _⟩ := h.get hi
  obtain ⟨_, _, h3⟩ := hA b hb
  obtain ⟨v', h4, h5⟩ := h3 _ _ (hc.get hj)
  rcases h5 with h5 | h5 | ⟨m, n, h5, _⟩
  · exact absurd h5 hX
  · rw [h4, h5]
  · exact absurd h5 (hn m)
theorem Sep.mlCells {i b o : Nat} {cs : List Value} (h : Sep G W As w) (hi : As[i]? = some (ML w0 f0 X)) (hb : f0 b) (hc : CellsAt w0 b o cs) (hX : ∀ j, j < cs.length → ¬ X b (o + j)) : ∃ cs', cs'.length = cs.length ∧ CellsAt w b o cs' ∧ ∀ (j : Nat) v, cs[j]? = some v → ∃ v', cs'[j]? = some v' ∧ MildV v v' := by
  obtain ⟨f, hA, _⟩ := h.get hi
  obtain ⟨_, _, h3⟩ := hA b hb
  refine ⟨cs.mapIdx (fun j _ => (w.cell? ⟨b, o + j, none⟩).getD undef), by simp, fun j hj => ?_, fun j v hj => ?_⟩
  · have hj' : j < cs.length := by simpa using hj
    obtain ⟨v', h4, h5⟩ := h3 _ _ (hc j hj')
    simp [h4]
  · obtain ⟨hlt, rfl⟩ := List.getElem?_eq_some_iff.1 hj
    obtain ⟨v', h4, h5⟩ := h3 _ _ (hc j hlt)
    refine ⟨v', ?_, h5.resolve_left (hX j hlt)⟩
    rw [List.getElem?_mapIdx, List.getElem?_eq_getElem hlt]
    simp [h4]
end
theorem XU {w : World} {b o : Nat} {c : Array Value} {T : TypeId} (h : w.heap[b]? = some (.cells c T)) : w.cell? ⟨b, o, none⟩ = c[o]? := by
  unfold World.cell?; simp [h]
theorem Uh {c : Array Value} {o : Nat} {us : List Value} (h : o + us.length ≤ c.size) (p : Nat) : (Yv c o us)[p]? = if o ≤ p ∧ p < o + us.length then us[p - o]? else c[p]? := by
  unfold Yv
  simp only [List.getElem?_toArray]
  have hl : (c.toList.take o).length = o := by simp; omega
  by_cases h1 : p < o
  · rw [if_neg (by omega), List.append_assoc, List.getElem?_append_left (by rw [hl]; exact h1), List.getElem?_take, if_pos h1]; simp
  · by_cases h2 : p < o + us.length
    · rw [if_pos ⟨by omega, h2⟩, List.getElem?_append_left (by rw [List.length_append, hl]; exact h2), List.getElem?_append_right (by rw [hl]; omega), hl]
    · rw [if_neg (by omega), List.getElem?_append_right (by rw [List.length_append, hl]; omega), List.length_append, hl, List.getElem?_drop, show o + us.length + (p - (o + us.length)) = p by omega]; simp
section
variable {P : Program} {d : Option Tmp} {ty : TypeId} {pos : String} {af : Array Edge} {gd : Option (Nat × Bool)} {σ : Env} {w w0 : World} {K : Value → World → Prop} {G : Nat → Prop} {W : World} {As : List HP} {f0 : Nat → Prop} {X X' : Nat → Nat → Prop}
theorem xP {t : TypeId} {b o : Nat} {x y : Operand} {u : Value} {us cs : List Value} (h : Sep G W (ML w0 f0 X :: As) w) (hS : ∀ w, (sizeOf t).run P w = .ok us.length w) (hx : ev σ x = .pointer (some ⟨b, o, none⟩)) (hb : f0 b)
    (hy : ev σ y = u) (hu : u.cells.toList = us) (h1 : ∀ u ∈ us, u.oneCell' = true) (hc : CellsAt w0 b o cs) (hl : cs.length = us.length) (hpos : 0 < us.length)
    (hm : ∀ (j : Nat) v v', cs[j]? = some v → us[j]? = some v' → X' b (o + j) ∨ MildV v v') (hXX : ∀ b o, X b o → X' b o) (hK : ∀ w', Sep G W (ML w0 f0 X' :: As) w' → K undef w') : opV P ⟨d, .store t x y, ty, pos, af, gd⟩ σ w K := by
  obtain ⟨f, hA, hfl⟩ := h.get (i := 0) rfl
  obtain ⟨hfb, ⟨c, T, hbk⟩, h3⟩ := hA b hb
  have hfit : o + us.length ≤ c.size := by
    obtain ⟨v', h4, _⟩ := h3 _ _ (hc (us.length - 1) (by omega))
    rw [XU hbk] at h4
    obtain ⟨h5, _⟩ := Array.getElem?_eq_some_iff.1 h4
    omega
  refine zy (v := u) (c := c) (T := T) (by intro w; rw [hS, ← hu]; simp) hx hy hbk (by rw [hu]; exact h1) (by rw [hu]; exact hfit) rfl (fun w1 hp => hK w1 ?_)
  refine h.upd (i := 0) (B := ML w0 f0 X') rfl (fun f hA hl9 => ?_)
  refine ⟨hp.chg.weak (fun i _ hi => by subst hi; exact (hA _ hb).1), f, fun b' hb' => ?_, fun _ hb => .inl hb⟩
  obtain ⟨h5, h6, h7⟩ := hA b' hb'
  by_cases e : b' = b
  · subst e
    refine ⟨h5, ⟨_, _, hp.at_⟩, fun p v hv => ?_⟩
    obtain ⟨v', h8, h9⟩ := h7 p v hv
    rw [XU hbk] at h8
    rw [XU hp.at_, hu, Uh hfit]
    by_cases hr : o ≤ p ∧ p < o + us.length
    · rw [if_pos hr]
      have hlt : p - o < us.length := by omega
      refine ⟨us[p - o], List.getElem?_eq_getElem hlt, ?_⟩
      have h10 := hc (p - o) (by omega)
      rw [show o + (p - o) = p by omega, hv] at h10
      have h11 := hm (p - o) v us[p - o] (by rw [List.getElem?_eq_getElem (by omega)]; exact h10.symm) (List.getElem?_eq_getElem hlt)
      rw [show o + (p - o) = p by omega] at h11
      exact h11
    · rw [if_neg hr]
      exact ⟨v', h8, h9.imp (hXX _ _) id⟩
  · have e2 := hp.chg.block b' (by obtain ⟨c, T, hc⟩ := h6; exact xn hc) e
    refine ⟨h5, h6.keep e2, fun p v hv => ?_⟩
    obtain ⟨v', h8, h9⟩ := h7 p v hv
    exact ⟨v', by rw [Zf e2]; exact h8, h9.imp (hXX _ _) id⟩
end
def MildAll : List Value → List Value → Prop
  | a :: xs, b :: ys => MildV a b ∧ MildAll xs ys
  | _, _ => True
theorem MildAll.at_ : ∀ {xs ys : List Value}, MildAll xs ys → ∀ (j : Nat) v v', xs[j]? = some v → ys[j]? = some v' → MildV v v'
  | _ :: _, _ :: _, h, 0, _, _, h1, h2 => by
    simp only [List.getElem?_cons_zero, Option.some.injEq] at h1 h2
    subst h1; subst h2; exact h.1
  | _ :: _, _ :: _, h, j + 1, _, _, h1, h2 => MildAll.at_ h.2 j _ _ (by simpa using h1) (by simpa using h2)
  | [], _, _, j, _, _, h1, _ => by simp at h1
  | _ :: _, [], _, j, _, _, _, h2 => by simp at h2
theorem MildV.num {m n : Int} (h : InR n) : MildV (.int .i64 m) (.int .i64 n) := .inr ⟨m, n, rfl, rfl, h⟩
end Go.Proofs.YtlblilbmpdejgaaDoor
/- Steps of the proofs of this seat: part F22. -/
set_option maxRecDepth 8000
set_option maxHeartbeats 4000000
namespace Go.Proofs.YtlblilbmpdejgaaDoor
open Go.Proofs Go.RowKit

theorem VH {G : Nat → Prop} {W w : World} {Rs : List HP} {i : Int} (hi : InR i) (hS0 : Sep G W Rs w) : Ret Tryd.prog 62 [.int .i64 (i)] w (fun r w' => ∃ (m : Int), r = (.int .i64 (m) : Value) ∧ (InR m) ∧ Sep G W Rs w') := by
 refine zr (args := [Iv i]) Tryd.func62 rfl rfl ?_
 refine zd (za kr (fun _ => (st (ze (v := Iv 0) rfl (zf (zd (za kr (fun _ => (st (zb (v := Iv i) rfl (st (Jp (r := IntKind.i64.wrap (13 * i)) (k := .i64) (a := 13) (b := i) rfl rfl rfl (st (zV (r := IntKind.i64.wrap (7001 + (IntKind.i64.wrap (13 * i)))) (k := .i64) (a := 7001) (b := IntKind.i64.wrap (13 * i)) rfl rfl rfl (st (ze (v := Iv (IntKind.i64.wrap (7001 + (IntKind.i64.wrap (13 * i))))) rfl (zf (zt (zO Tryd.results62 (show _ = (Iv (IntKind.i64.wrap (7001 + (IntKind.i64.wrap (13 * i)))) : Value) from rfl) ?_)))))))))))))))))))
 refine ⟨IntKind.i64.wrap (7001 + (IntKind.i64.wrap (13 * i))), rfl, ?_, hS0⟩
 exact Zw _

theorem xU {G : Nat → Prop} {W w : World} {Rs : List HP} {w0 : World} {f0 : Nat → Prop} {X : Nat → Nat → Prop} {vl : Value} {l : List Int} (hl9 : RdS w0 f0 vl l) (hS0 : Sep G W ((ML w0 f0 X) :: Rs) w) : Ret Tryd.prog 30 [vl] w (fun r w' => r = (.tuple #[] : Value) ∧ Sep G W ((ML w0 f0 X) :: Rs) w') := by
 have hl9s : _ * 8 ≤ _ := hl9.small
 refine zr (args := [vl]) Tryd.func30 rfl rfl ?_
 refine zd (za kr (fun _ => (st (ze (v := Iv 0) rfl (zf (zw (yd (fun mq σ x => ∃ (k : Nat) (ρ : Env), mq = l.length - k ∧ σ = yh ρ [(0, vl), (2, Iw k)] ∧ (k ≤ l.length) ∧ Sep G W ((ML w0 f0 X) :: Rs) x) ⟨0, _, rfl, zq ⟨rfl, rfl, trivial⟩, Nat.zero_le _, hS0⟩ ?_)))))))
 rintro m2 σ3 w1 ⟨k, ρl1, rfl, rfl, hkk, g⟩
 refine zd (zd (za kr (fun _ => (st (zb (v := Iw k) rfl (st (zb (v := vl) rfl (st (zJ (n := l.length) Tryd.underlying40 rfl hl9.sl (st (zL (k := .i64) (a := ((k : Nat) : Int)) (b := ((l.length : Nat) : Int)) rfl rfl (zf ?_))))))))))))
 cases c : decide (((k : Nat) : Int) < ((l.length : Nat) : Int))
 have c := fD c
 refine zn rfl (yc (zU (Xw Tryd.results30 ?_)))
 refine ⟨rfl, g⟩
 have c := tD c
 refine zo rfl (zv (zd (zw (za kr (fun _ => (st (zb (v := vl) rfl (st (zb (v := Iw k) rfl (st (zb (v := Iw k) rfl ?_)))))))))))
 have j : InR ((k + 7 : Nat) : Int) := bo
 refine st (zV (r := ((k + 7 : Nat) : Int)) (k := .i64) (a := ((k : Nat) : Int)) (b := 7) rfl rfl (by rw [show (((k : Nat) : Int) + 7 : Int) = ((k + 7 : Nat) : Int) from bo]; exact zM j) (st (zu (f := 62) (vals := [Iw (k + 7)]) (cap := []) rfl rfl Tryd.call62 (VH (i := ((k + 7 : Nat) : Int)) j g) ?_)))
 rintro _ w9 ⟨m, rfl, hr8, p⟩
 have q : k < l.length := bo
 refine st (zk (k := 1) (i := k) Tryd.underlying40 Tryd.sizeOf3 rfl hl9.sl rfl q ?_)
 have d : k < l.length := bo
 obtain ⟨e, _⟩ := hl9.int d
 refine stn (xP (b := sb vl) (o := so vl + k * 1) (u := Iv m) (us := [Iv m]) (X' := X) p Tryd.sizeOf3 rfl (hl9.foot (ne_of_lt d)) rfl rfl (ya ⟨rfl, trivial⟩) e rfl (Nat.zero_lt_succ _) (fun y z A B C => .inr (MildAll.at_ (show MildAll [Iv (l[k])] [Iv m] from ⟨MildV.num om, trivial⟩) y z A B C)) (fun _ _ h => h) ?_)
 intro w12 s
 refine zf (za kr (fun _ => (st (zb (v := Iw k) rfl ?_))))
 have t : InR ((k + 1 : Nat) : Int) := bo
 refine st (zV (r := ((k + 1 : Nat) : Int)) (k := .i64) (a := ((k : Nat) : Int)) (b := 1) rfl rfl (by rw [show (((k : Nat) : Int) + 1 : Int) = ((k + 1 : Nat) : Int) from bo]; exact zM t) (st (ze (v := Iw (k + 1)) rfl (zf ?_))))
 exact ⟨_, by omega, k + 1, _, rfl, zq ⟨rfl, rfl, trivial⟩, by omega, s⟩

theorem Uu {G : Nat → Prop} {W w : World} {Rs : List HP} {w0 : World} {f0 : Nat → Prop} {x : Sta} {vs : Value} (hs9 : RdS w0 f0 vs x.cls) (ox : x.Ok) (hS0 : Sep G W ((ML w0 f0 noX) :: Rs) w) : Ret Tryd.prog 35 [.agg (x.cells vs).toArray] w (fun r w' => r = (.tuple #[] : Value) ∧ Sep G W Rs w') := by
 have hs9s : _ * 32 ≤ _ := hs9.small
 refine zr (args := [.agg (x.cells vs).toArray]) Tryd.func35 rfl rfl ?_
 refine zd (za kr (fun _ => (st (zT (v := .agg (x.cells vs).toArray) rfl ?_))))
 intro w3 b2 E
 have F := hS0.new E
 refine zf (zd (za kr (fun _ => (st (ze (v := Iv 0) rfl (zf (zw (yd (fun mq σ H => ∃ (k : Nat) (ρ : Env), mq = x.cls.length - k ∧ σ = yh ρ [(1, Ix b2 0), (2, Iw k)] ∧ (k ≤ x.cls.length) ∧ Sep G W ((Blk b2 (x.cells vs).toArray 68) :: (ML w0 f0 noX) :: Rs) H) ⟨0, _, rfl, zq ⟨rfl, rfl, trivial⟩, Nat.zero_le _, F⟩ ?_))))))))
 rintro m6 σ7 w5 ⟨k, ρl1, rfl, rfl, hkk, d⟩
 refine zd (zd (za kr (fun _ => (st (zb (v := Iw k) rfl (st (yF rfl (st (zg (v := vs) Tryd.isAgg26 rfl (zh (d.blk (i := 0) rfl) rfl) (st (zJ (n := x.cls.length) Tryd.underlying26 rfl hs9.sl (st (zL (k := .i64) (a := ((k : Nat) : Int)) (b := ((x.cls.length : Nat) : Int)) rfl rfl (zf ?_))))))))))))))
 cases l : decide (((k : Nat) : Int) < ((x.cls.length : Nat) : Int))
 have l := fD l
 refine zn rfl (yc (zU (Xw Tryd.results35 ?_)))
 have t := d.s2_
 refine ⟨rfl, t⟩
 have l := tD l
 refine zo rfl (zv (zd (zw (zd (za kr (fun _ => (st (yF rfl (st (zg (v := vs) Tryd.isAgg26 rfl (zh (d.blk (i := 0) rfl) rfl) (st (zb (v := Iw k) rfl ?_))))))))))))
 have y : k < x.cls.length := bo
 refine st (zk (k := 2) (i := k) Tryd.underlying26 Tryd.sizeOf42 rfl hs9.sl rfl y (st (yN rfl ?_)))
 have e : k < x.cls.length := bo
 obtain ⟨m, c, _⟩ := hs9.cel e
 rw [← zm default e] at m c
 refine st (zg (v := (zi w0 (sb vs) (so vs + k * 2 + 1))) Tryd.isAgg40 rfl (d.mlHead (i := 1) rfl (hs9.foot (ne_of_lt e)) m (j := 1) rfl (fun h => h) (IsSl.num c.sl)) ?_)
 have z := d.mv1
 refine st (zu (f := 30) (vals := [(zi w0 (sb vs) (so vs + k * 2 + 1))]) (cap := []) rfl rfl Tryd.call30 (xU  c z) ?_)
 rintro _ w15 ⟨rfl, s⟩
 refine zf (za kr (fun _ => (st (yF rfl (st (zg (v := vs) Tryd.isAgg26 rfl (zh (s.blk (i := 1) rfl) rfl) (st (zb (v := Iw k) rfl ?_))))))))
 have A : k < x.cls.length := bo
 refine st (zk (k := 2) (i := k) Tryd.underlying26 Tryd.sizeOf42 rfl hs9.sl rfl A (st (yL rfl ?_)))
 have g : k < x.cls.length := bo
 obtain ⟨p, q, _⟩ := hs9.cel g
 rw [← zm default g] at p q
 refine stn (xP (b := sb vs) (o := so vs + k * 2) (u := Iv (-77)) (us := [Iv (-77)]) (X' := noX) s Tryd.sizeOf3 rfl (hs9.foot (ne_of_lt g)) rfl rfl (ya ⟨rfl, trivial⟩) (CellsAt.sub p 0 (cs2 := [Iv ((x.cls.getD k default).n)]) rfl) rfl (Nat.zero_lt_succ _) (fun I J K L M => .inr (MildAll.at_ (show MildAll [Iv ((x.cls.getD k default).n)] [Iv (-77)] from ⟨MildV.num dc, trivial⟩) I J K L M)) (fun _ _ h => h) ?_)
 intro w18 B
 refine zf (za kr (fun _ => (st (zb (v := Iw k) rfl ?_))))
 have C : InR ((k + 1 : Nat) : Int) := bo
 refine st (zV (r := ((k + 1 : Nat) : Int)) (k := .i64) (a := ((k : Nat) : Int)) (b := 1) rfl rfl (by rw [show (((k : Nat) : Int) + 1 : Int) = ((k + 1 : Nat) : Int) from bo]; exact zM C) (st (ze (v := Iw (k + 1)) rfl (zf ?_))))
 have D := B.mv1
 exact ⟨_, by omega, k + 1, _, rfl, zq ⟨rfl, rfl, trivial⟩, by omega, D⟩

theorem Sep.mlX {G : Nat → Prop} {W w w0 : World} {As : List HP} {f0 : Nat → Prop} {X X' : Nat → Nat → Prop} (h : Sep G W (ML w0 f0 X :: As) w) (hX : ∀ b o, X b o → X' b o) : Sep G W (ML w0 f0 X' :: As) w :=
  h.impl (i := 0) rfl (fun f hA b hb => ⟨(hA b hb).1, (hA b hb).2.1, fun o v hv => by obtain ⟨v', h1, h2⟩ := (hA b hb).2.2 o v hv; exact ⟨v', h1, h2.imp (hX _ _) id⟩⟩)
def Xf (v : Value) (q : Nat) : Nat → Nat → Prop := fun b o => b = sb v ∧ o < so v + q * 4
theorem KJ {G : Nat → Prop} {W w w0 : World} {As : List HP} {f0 : Nat → Prop} {X : Nat → Nat → Prop} {v : Value} {l : List Fld} {q i : Nat} (h : Sep G W As w) (hi : As[i]? = some (ML w0 f0 (Xf v q))) (hv : RdS w0 f0 v l) (hq : q < l.length) : ∃ a c : Int, CellsAt w (sb v) (so v + q * 4) [.int .i64 a, .int .i64 c, .bool (l.getD q default).floor, zi w0 (sb v) (so v + q * 4 + 3)] := by
  obtain ⟨hc, hd, ho⟩ := hv.fld hq
  obtain ⟨cs', h1, h2, h3⟩ := h.mlCells hi (hv.foot (ne_of_lt hq)) hc (fun j hj hX => by have := hX.2; omega)
  obtain ⟨v0, e0, m0⟩ := h3 0 _ rfl
  obtain ⟨v1, e1, m1⟩ := h3 1 _ rfl
  obtain ⟨v2, e2, m2⟩ := h3 2 _ rfl
  obtain ⟨v3, e3, m3⟩ := h3 3 _ rfl
  have num : ∀ {n : Int} {u : Value}, MildV (.int .i64 n) u → ∃ m : Int, u = .int .i64 m := fun {n u} h => by
    rcases h with h | ⟨_, m, _, h, _⟩
    · exact ⟨n, h⟩
    · exact ⟨m, h⟩
  obtain ⟨a, rfl⟩ := num m0
  obtain ⟨c, rfl⟩ := num m1
  have q2 : v2 = .bool l[q].floor := by
    rcases m2 with h | ⟨m, n, h, _⟩
    · exact h
    · cases h
  have q3 : v3 = zi w0 (sb v) (so v + q * 4 + 3) := by
    rcases m3 with h | ⟨m, n, h, _⟩
    · exact h
    · exact absurd h (IsSl.num hd.sl m)
  subst q2 q3
  refine ⟨a, c, ?_⟩
  rw [zm default hq]
  have hl : cs'.length = 4 := h1
  match cs', hl, h2, e0, e1, e2, e3 with
  | [x0, x1, x2, x3], _, h2, e0, e1, e2, e3 =>
    cases Option.some.inj e0; cases Option.some.inj e1; cases Option.some.inj e2; cases Option.some.inj e3
    exact h2
def YQ (k : Nat) (Bs : List HP) : List HP := List.replicate k Emp ++ Bs.drop k
theorem UJ {k : Nat} {Bs : List HP} {B : HP} (h : Bs[k]? = some B) : (YQ k Bs)[k]? = some B := by
  unfold YQ
  rw [List.getElem?_append_right (by simp), List.length_replicate, Nat.sub_self, List.getElem?_drop]; exact h
theorem QA {k : Nat} {Bs : List HP} (h : k < Bs.length) : (YQ k Bs).set k Emp = YQ (k + 1) Bs := by
  unfold YQ
  rw [List.set_append_right _ _ (by simp), List.length_replicate, Nat.sub_self, List.drop_eq_getElem_cons h, List.set_cons_zero, List.replicate_succ', List.append_assoc]; rfl
theorem Wz {G : Nat → Prop} {W w : World} {Rs : List HP} {d : Dcl} {v1 v2 : Value} (hS0 : Sep G W ((TypW v1 33 79 d.types) :: (RowE (α := Prj) own 107 v2 d.projs) :: Rs) w) : Ret Tryd.prog 26 [.agg (d.cells v1 v2).toArray] w (fun r w' => r = (.tuple #[] : Value) ∧ Sep G W Rs w') := by
 refine zr (args := [.agg (d.cells v1 v2).toArray]) Tryd.func26 rfl rfl ?_
 have aT := hS0.row (i := 1) rfl
 have hr1s : _ * 40 ≤ _ := aT.2
 refine zd (za kr (fun _ => (st (zT (v := .agg (d.cells v1 v2).toArray) rfl ?_))))
 intro T t aU
 have aV := hS0.new aU
 refine zf (zd (zd ?_))
 have aW := aV.mv1
 obtain ⟨c, V, aX⟩ := TypW.open aW
 have Y : Sep G W ((RowE (α := TypS) own 33 v1 c) :: (Star (FldRows 79 c d.types)) :: (Blk t (d.cells v1 v2).toArray 25) :: (RowE (α := Prj) own 107 v2 d.projs) :: Rs) T := aX
 have s := Y.row (i := 0) rfl
 have hr10s : _ * 24 ≤ _ := s.2
 have hsh8l : c.length = d.types.length := V
 have ak := Y.mv3
 obtain ⟨D, x, Z⟩ := ak.toML
 refine za kr (fun _ => (st (ze (v := Iv 0) rfl (zf (zw ?_)))))
 rw [show FldRows 79 c d.types = YQ 0 (FldRows 79 c d.types) from rfl] at Z
 refine yd (fun mq σ E => ∃ (k : Nat) (ρ : Env), mq = d.types.length - k ∧ σ = yh ρ [(1, Ix t 0), (2, Iw k)] ∧ (k ≤ d.types.length) ∧ Sep G W ((ML T D noX) :: (RowE (α := TypS) own 33 v1 c) :: (Star (YQ k (FldRows 79 c d.types))) :: (Blk t (d.cells v1 v2).toArray 25) :: Rs) E) ⟨0, _, rfl, zq ⟨rfl, rfl, trivial⟩, Nat.zero_le _, Z⟩ ?_
 rintro m16 σ17 e ⟨k, ρl1, rfl, rfl, hkk, F⟩
 refine zd (zd (za kr (fun _ => (st (zb (v := Iw k) rfl (st (yo rfl (st (zg (v := v1) Tryd.isAgg22 rfl (zh (F.blk (i := 3) rfl) rfl) (st (zJ (n := c.length) Tryd.underlying22 rfl s.1 (st (zL (k := .i64) (a := ((k : Nat) : Int)) (b := ((c.length : Nat) : Int)) rfl rfl (zf ?_))))))))))))))
 cases y : decide (((k : Nat) : Int) < ((c.length : Nat) : Int))
 have y := fD y
 refine zn rfl (yc (zU (zd (za kr (fun _ => (st (ze (v := Iv 0) rfl (zf (zw (yd (fun mq σ E => ∃ (p : Nat) (ρ : Env), mq = d.projs.length - p ∧ σ = yh ρ [(1, Ix t 0), (6, Iw p)] ∧ (p ≤ d.projs.length) ∧ Sep G W ((ML T D noX) :: (RowE (α := TypS) own 33 v1 c) :: (Star (YQ k (FldRows 79 c d.types))) :: (Blk t (d.cells v1 v2).toArray 25) :: Rs) E) ⟨0, _, rfl, zq ⟨rfl, rfl, trivial⟩, Nat.zero_le _, F⟩ ?_))))))))))
 rintro m21 σ22 w20 ⟨p, ρl2, rfl, rfl, hkp, z⟩
 refine zd (zd (za kr (fun _ => (st (zb (v := Iw p) rfl (st (xS rfl (st (zg (v := v2) Tryd.isAgg23 rfl (zh (z.blk (i := 3) rfl) rfl) (st (zJ (n := d.projs.length) Tryd.underlying23 rfl x.sl (st (zL (k := .i64) (a := ((p : Nat) : Int)) (b := ((d.projs.length : Nat) : Int)) rfl rfl (zf ?_))))))))))))))
 cases A : decide (((p : Nat) : Int) < ((d.projs.length : Nat) : Int))
 have A := fD A
 refine zn rfl (yc (zU (Xw Tryd.results26 ?_)))
 have al := z.s4_
 refine ⟨rfl, al⟩
 have A := tD A
 refine zo rfl (zv (zd (zw (za (by kernel_rfl) (fun _ => (st (xS rfl (st (zg (v := v2) Tryd.isAgg23 rfl (zh (z.blk (i := 3) rfl) rfl) (st (zb (v := Iw p) rfl (st (zQ (parts' := [(0, Iv 77)]) (v := .agg #[Iv 77, Iv 0, Iv 0, Iv 0, Iv 0]) rfl (by simp [Instr.build, Instr.fill, Ev.cells, go_sem, Mv.cells, Fld.cells, Typ.cells, Prj.cells, Dcl.cells, Cel.cells, AskR.cells, Ask.cells, CelS.cells, Ev.cells, Ent.cells, Sta.cells]) ?_)))))))))))))
 have am : p < d.projs.length := bo
 refine st (zk (k := 5) (i := p) Tryd.underlying23 Tryd.sizeOf107 rfl x.sl rfl am ?_)
 have H : p < d.projs.length := bo
 obtain ⟨L, _⟩ := x.prj H
 rw [← zm default H] at L
 refine stn (xP (b := sb v2) (o := so v2 + p * 5) (u := .agg #[Iv 77, Iv 0, Iv 0, Iv 0, Iv 0]) (us := [Iv 77, Iv 0, Iv 0, Iv 0, Iv 0]) (X' := noX) z Tryd.sizeOf107 rfl (x.foot (ne_of_lt H)) rfl rfl (ya ⟨rfl, rfl, rfl, rfl, rfl, trivial⟩) L rfl (Nat.zero_lt_succ _) (fun j9 v9 u9 a9 b9 => .inr (MildAll.at_ (show MildAll [Iv ((d.projs.getD p default).ptyp), Iv ((d.projs.getD p default).pfield), Iv ((d.projs.getD p default).pgroup), Iv ((d.projs.getD p default).pby), Iv ((d.projs.getD p default).pmake)] [Iv 77, Iv 0, Iv 0, Iv 0, Iv 0] from ⟨MildV.num dc, MildV.num dc, MildV.num dc, MildV.num dc, MildV.num dc, trivial⟩) j9 v9 u9 a9 b9)) (fun _ _ h => h) ?_)
 intro w27 au
 refine zf (za kr (fun _ => (st (zb (v := Iw p) rfl ?_))))
 have av : InR ((p + 1 : Nat) : Int) := bo
 refine st (zV (r := ((p + 1 : Nat) : Int)) (k := .i64) (a := ((p : Nat) : Int)) (b := 1) rfl rfl (by rw [show (((p : Nat) : Int) + 1 : Int) = ((p + 1 : Nat) : Int) from bo]; exact zM av) (st (ze (v := Iw (p + 1)) rfl (zf ?_))))
 exact ⟨_, by omega, p + 1, _, rfl, zq ⟨rfl, rfl, trivial⟩, by omega, au⟩
 have y := tD y
 refine zo rfl (zv (zd (zw (zd ?_))))
 have aw := F.mv2
 have aa : Sep G W ((RowE (α := Fld) own 79 ((c.getD k default).v) ((d.types.getD k default).fields)) :: (Star ((YQ k (FldRows 79 c d.types)).set k Emp)) :: (ML T D noX) :: (RowE (α := TypS) own 33 v1 c) :: (Blk t (d.cells v1 v2).toArray 25) :: Rs) e := Sep.takeStar aw (UJ (FldRows.get (i := k) om om))
 rw [QA (by rw [FldRows.len V]; omega)] at aa
 obtain ⟨ai, f, ax⟩ := aa.toML
 have ay := ax.mlX (X' := (Xf ((c.getD k default).v) 0)) (fun _ _ h => h.elim)
 have hm9s : _ * 48 ≤ _ := f.small
 refine za kr (fun _ => (st (ze (v := Iv 0) rfl (zf (zw (yd (fun mq σ E => ∃ (q : Nat) (ρ : Env), mq = ((d.types.getD k default).fields).length - q ∧ σ = yh ρ [(1, Ix t 0), (2, Iw k), (3, Iw q)] ∧ (q ≤ ((d.types.getD k default).fields).length) ∧ Sep G W ((ML e ai (Xf ((c.getD k default).v) q)) :: (Star (YQ (k + 1) (FldRows 79 c d.types))) :: (ML T D noX) :: (RowE (α := TypS) own 33 v1 c) :: (Blk t (d.cells v1 v2).toArray 25) :: Rs) E) ⟨0, _, rfl, zq ⟨rfl, rfl, rfl, trivial⟩, Nat.zero_le _, ay⟩ ?_))))))
 rintro m39 σ40 w38 ⟨q, ρl3, rfl, rfl, hqq, g⟩
 refine zd (zd (za kr (fun _ => (st (zb (v := Iw q) rfl (st (yo rfl (st (zg (v := v1) Tryd.isAgg22 rfl (zh (g.blk (i := 4) rfl) rfl) (st (zb (v := Iw k) rfl ?_)))))))))))
 have az : k < c.length := bo
 refine st (zk (k := 1) (i := k) Tryd.underlying22 Tryd.sizeOf33 rfl s.1 rfl az (st (yA rfl ?_)))
 have ab : k < c.length := bo
 obtain ⟨_, _, M, rfl, ac⟩ := g.rowAt (i := 3) (j := k) rfl ab
 rw [← zm default ab] at M ac
 refine st (zg (v := (c.getD k default).v) Tryd.isAgg31 rfl (M.get (j := 0) rfl) (st (zJ (n := ((d.types.getD k default).fields).length) Tryd.underlying31 rfl f.sl (st (zL (k := .i64) (a := ((q : Nat) : Int)) (b := ((((d.types.getD k default).fields).length : Nat) : Int)) rfl rfl (zf ?_))))))
 cases B : decide (((q : Nat) : Int) < ((((d.types.getD k default).fields).length : Nat) : Int))
 have B := fD B
 refine zn rfl (yc (zU (za kr (fun _ => (st (zb (v := Iw k) rfl ?_))))))
 have aA : InR ((k + 1 : Nat) : Int) := bo
 refine st (zV (r := ((k + 1 : Nat) : Int)) (k := .i64) (a := ((k : Nat) : Int)) (b := 1) rfl rfl (by rw [show (((k : Nat) : Int) + 1 : Int) = ((k + 1 : Nat) : Int) from bo]; exact zM aA) (st (ze (v := Iw (k + 1)) rfl (zf ?_))))
 have aB := g.s5_cdbe
 exact ⟨_, by omega, k + 1, _, rfl, zq ⟨rfl, rfl, trivial⟩, by omega, aB⟩
 have B := tD B
 refine zo rfl (zv (zd (zw (zd (za kr (fun _ => (st (yo rfl (st (zg (v := v1) Tryd.isAgg22 rfl (zh (g.blk (i := 4) rfl) rfl) (st (zb (v := Iw k) rfl ?_))))))))))))
 have aC : k < c.length := bo
 refine st (zk (k := 1) (i := k) Tryd.underlying22 Tryd.sizeOf33 rfl s.1 rfl aC (st (yA rfl ?_)))
 have ad : k < c.length := bo
 obtain ⟨_, _, N, rfl, ae⟩ := g.rowAt (i := 3) (j := k) rfl ad
 rw [← zm default ad] at N ae
 refine st (zg (v := (c.getD k default).v) Tryd.isAgg31 rfl (N.get (j := 0) rfl) (st (zb (v := Iw q) rfl ?_)))
 have aD : q < ((d.types.getD k default).fields).length := bo
 refine st (zk (k := 4) (i := q) Tryd.underlying31 Tryd.sizeOf79 rfl f.sl rfl aD ?_)
 have I : q < ((d.types.getD k default).fields).length := by omega
 obtain ⟨O, P, aE⟩ := KJ (X := noX) g (i := 0) rfl f I
 obtain ⟨_, l, _⟩ := f.fld I
 rw [← zm default I] at l
 have hd56s : _ * 32 ≤ _ := l.small
 refine st (zl (k := 4) (cs := [Iv O, Iv P, .bool ((((d.types.getD k default).fields).getD q default).floor), (zi e (sb ((c.getD k default).v)) (so ((c.getD k default).v) + q * 4 + 3))]) Tryd.isAgg79 Tryd.sizeOf79 rfl rfl aE (st (zB Tryd.zeroValue79 ?_)))
 intro w59 aj aF
 have af := g.new aF
 refine stn (zy (v := .agg #[Iv O, Iv P, .bool ((((d.types.getD k default).fields).getD q default).floor), (zi e (sb ((c.getD k default).v)) (so ((c.getD k default).v) + q * 4 + 3))]) (c' := #[Iv O, Iv P, .bool ((((d.types.getD k default).fields).getD q default).floor), (zi e (sb ((c.getD k default).v)) (so ((c.getD k default).v) + q * 4 + 3))]) Tryd.sizeOf79 rfl rfl (af.blk (i := 0) rfl) (ya ⟨rfl, rfl, rfl, l.sl.one, trivial⟩) (Nat.le_of_ble_eq_true rfl) rfl ?_)
 intro w61 aG
 have aH := af.pt0 aG
 refine zf (zd (zd (za kr (fun _ => (st (ze (v := Iv 0) rfl (zf (zw (yd (fun mq σ E => ∃ (j : Nat) (ρ : Env), mq = (((d.types.getD k default).fields).getD q default).moves.length - j ∧ σ = yh ρ [(1, Ix t 0), (2, Iw k), (3, Iw q), (4, Ix aj 0), (5, Iw j)] ∧ (j ≤ (((d.types.getD k default).fields).getD q default).moves.length) ∧ Sep G W ((Blk aj #[Iv O, Iv P, .bool ((((d.types.getD k default).fields).getD q default).floor), (zi e (sb ((c.getD k default).v)) (so ((c.getD k default).v) + q * 4 + 3))] 79) :: (ML e ai (Xf ((c.getD k default).v) q)) :: (Star (YQ (k + 1) (FldRows 79 c d.types))) :: (ML T D noX) :: (RowE (α := TypS) own 33 v1 c) :: (Blk t (d.cells v1 v2).toArray 25) :: Rs) E) ⟨0, _, rfl, zq ⟨rfl, rfl, rfl, rfl, rfl, trivial⟩, Nat.zero_le _, aH⟩ ?_)))))))))
 rintro m65 σ66 w64 ⟨j, ρl4, rfl, rfl, hkj, m⟩
 refine zd (zd (za kr (fun _ => (st (zb (v := Iw j) rfl (st (yz rfl (st (zg (v := (zi e (sb ((c.getD k default).v)) (so ((c.getD k default).v) + q * 4 + 3))) Tryd.isAgg77 rfl (zh (m.blk (i := 0) rfl) rfl) (st (zJ (n := ((((d.types.getD k default).fields).getD q default).moves).length) Tryd.underlying77 rfl l.sl (st (zL (k := .i64) (a := ((j : Nat) : Int)) (b := ((((((d.types.getD k default).fields).getD q default).moves).length : Nat) : Int)) rfl rfl (zf ?_))))))))))))))
 cases C : decide (((j : Nat) : Int) < ((((((d.types.getD k default).fields).getD q default).moves).length : Nat) : Int))
 have C := fD C
 refine zn rfl (yc (zU (za kr (fun _ => (st (yo rfl (st (zg (v := v1) Tryd.isAgg22 rfl (zh (m.blk (i := 5) rfl) rfl) (st (zb (v := Iw k) rfl ?_))))))))))
 have aI : k < c.length := bo
 refine st (zk (k := 1) (i := k) Tryd.underlying22 Tryd.sizeOf33 rfl s.1 rfl aI (st (yA rfl ?_)))
 have ag : k < c.length := bo
 obtain ⟨_, _, Q, rfl, ah⟩ := m.rowAt (i := 4) (j := k) rfl ag
 rw [← zm default ag] at Q ah
 refine st (zg (v := (c.getD k default).v) Tryd.isAgg31 rfl (Q.get (j := 0) rfl) (st (zb (v := Iw q) rfl (st (zQ (parts' := [(0, Iv 77)]) (v := .agg #[Iv 77, Iv 0, .bool false, (Iz)]) rfl (by simp [Instr.build, Instr.fill, Ev.cells, go_sem, Mv.cells, Fld.cells, Typ.cells, Prj.cells, Dcl.cells, Cel.cells, AskR.cells, Ask.cells, CelS.cells, Ev.cells, Ent.cells, Sta.cells]) ?_)))))
 have aJ : q < ((d.types.getD k default).fields).length := bo
 refine st (zk (k := 4) (i := q) Tryd.underlying31 Tryd.sizeOf79 rfl f.sl rfl aJ ?_)
 have J : q < ((d.types.getD k default).fields).length := bo
 obtain ⟨R, U, _⟩ := f.fld J
 rw [← zm default J] at R U
 have aK := m.mv1
 refine stn (xP (b := sb ((c.getD k default).v)) (o := so ((c.getD k default).v) + q * 4) (u := .agg #[Iv 77, Iv 0, .bool false, (Iz)]) (us := [Iv 77, Iv 0, .bool false, (Iz)]) (X' := (Xf ((c.getD k default).v) (q + 1))) aK Tryd.sizeOf79 rfl (f.foot (ne_of_lt J)) rfl rfl (ya ⟨rfl, rfl, rfl, rfl, trivial⟩) R rfl (Nat.zero_lt_succ _) (fun j v v' a b => .inl ⟨rfl, by have := (List.getElem?_eq_some_iff.1 b).1; simp at this; omega⟩) (fun b o h => ⟨h.1, by have := h.2; omega⟩) ?_)
 intro w73 aL
 refine zf (za kr (fun _ => (st (zb (v := Iw q) rfl ?_))))
 have aM : InR ((q + 1 : Nat) : Int) := bo
 refine st (zV (r := ((q + 1 : Nat) : Int)) (k := .i64) (a := ((q : Nat) : Int)) (b := 1) rfl rfl (by rw [show (((q : Nat) : Int) + 1 : Int) = ((q + 1 : Nat) : Int) from bo]; exact zM aM) (st (ze (v := Iw (q + 1)) rfl (zf ?_))))
 have aN := aL.s6_acdef
 exact ⟨_, by omega, q + 1, _, rfl, zq ⟨rfl, rfl, rfl, trivial⟩, by omega, aN⟩
 have C := tD C
 refine zo rfl (zv (zd (zw (za (by kernel_rfl) (fun _ => (st (yz rfl (st (zg (v := (zi e (sb ((c.getD k default).v)) (so ((c.getD k default).v) + q * 4 + 3))) Tryd.isAgg77 rfl (zh (m.blk (i := 0) rfl) rfl) (st (zb (v := Iw j) rfl (st (zQ (parts' := [(0, Iv 77), (1, Iv 78), (2, Iv (-7))]) (v := .agg #[Iv 77, Iv 78, Iv (-7), Iv 0]) rfl (by simp [Instr.build, Instr.fill, Ev.cells, go_sem, Mv.cells, Fld.cells, Typ.cells, Prj.cells, Dcl.cells, Cel.cells, AskR.cells, Ask.cells, CelS.cells, Ev.cells, Ent.cells, Sta.cells]) ?_)))))))))))))
 have aO : j < ((((d.types.getD k default).fields).getD q default).moves).length := bo
 refine st (zk (k := 4) (i := j) Tryd.underlying77 Tryd.sizeOf115 rfl l.sl rfl aO ?_)
 have K : j < ((((d.types.getD k default).fields).getD q default).moves).length := bo
 obtain ⟨S, _⟩ := l.mv K
 rw [← zm default K] at S
 have aP := m.mv1
 refine stn (xP (b := sb (zi e (sb ((c.getD k default).v)) (so ((c.getD k default).v) + q * 4 + 3))) (o := so (zi e (sb ((c.getD k default).v)) (so ((c.getD k default).v) + q * 4 + 3)) + j * 4) (u := .agg #[Iv 77, Iv 78, Iv (-7), Iv 0]) (us := [Iv 77, Iv 78, Iv (-7), Iv 0]) (X' := (Xf ((c.getD k default).v) q)) aP Tryd.sizeOf115 rfl (l.foot (ne_of_lt K)) rfl rfl (ya ⟨rfl, rfl, rfl, rfl, trivial⟩) S rfl (Nat.zero_lt_succ _) (fun j9 v9 u9 a9 b9 => .inr (MildAll.at_ (show MildAll [Iv ((((((d.types.getD k default).fields).getD q default).moves).getD j default).frm), Iv ((((((d.types.getD k default).fields).getD q default).moves).getD j default).to), Iv ((((((d.types.getD k default).fields).getD q default).moves).getD j default).need), Iv ((((((d.types.getD k default).fields).getD q default).moves).getD j default).least)] [Iv 77, Iv 78, Iv (-7), Iv 0] from ⟨MildV.num dc, MildV.num dc, MildV.num dc, MildV.num dc, trivial⟩) j9 v9 u9 a9 b9)) (fun _ _ h => h) ?_)
 intro w81 aQ
 refine zf (za kr (fun _ => (st (zb (v := Iw j) rfl ?_))))
 have aR : InR ((j + 1 : Nat) : Int) := bo
 refine st (zV (r := ((j + 1 : Nat) : Int)) (k := .i64) (a := ((j : Nat) : Int)) (b := 1) rfl rfl (by rw [show (((j : Nat) : Int) + 1 : Int) = ((j + 1 : Nat) : Int) from bo]; exact zM aR) (st (ze (v := Iw (j + 1)) rfl (zf ?_))))
 have aS := aQ.mv1
 exact ⟨_, by omega, j + 1, _, rfl, zq ⟨rfl, rfl, rfl, rfl, rfl, trivial⟩, by omega, aS⟩

end Go.Proofs.YtlblilbmpdejgaaDoor
